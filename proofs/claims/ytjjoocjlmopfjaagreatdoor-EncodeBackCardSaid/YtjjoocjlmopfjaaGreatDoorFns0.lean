/- A part of the proof that the laws of this seat hold. Conditions: none beyond the row. -/
import Derived.Test.YtjjoocjlmopfjaaGreatDoorEng1
import Derived.Test.YtjjoocjlmopfjaaGreatDoorProg
import Derived.KernelRfl
import Derived.Lib.LaidTab
import Derived.Stop.LaidErr
set_option maxRecDepth 100000
set_option linter.unusedVariables false
set_option linter.unusedSimpArgs false
set_option linter.unusedSectionVars false
section
/- The tables of this program, and that they are right. -/
namespace Go.Eng.RZ
open Go.Proofs Go.Eng
@[reducible] def CerrorAddressString : TC := (.st .str (.st1 (.int .u64)))
@[reducible] def CboundsError : TC := (.st (.int .i64) (.st (.int .i64) (.st .bool (.st1 (.int .u8)))))
@[reducible] def Chead : TC := (.st (.int .u8) (.st .bool (.st (.int .u8) (.st (.int .u8) (.st (.int .u8) (.st1 (.int .i64)))))))
abbrev Dhead : Type := (Int × (Bool × (Int × (Int × (Int × Int)))))
@[reducible] def CO : TC := (.st (.int .u8) (.st (.int .i64) (.st (.int .i64) (.st (.int .i64) (.st (.int .i64) (.st (.int .i64) (.st .bool (.st1 (.int .i64)))))))))
abbrev DO : Type := (Int × (Int × (Int × (Int × (Int × (Int × (Bool × Int)))))))
@[reducible] def Crow : TC := (.st (.int .i64) (.st .str (.st .str (.st (.int .u8) (.st (.slice (.int .u8)) (.st (.int .i64) (.st (.int .i64) (.st1 (.int .i64)))))))))
abbrev Drow : Type := (Int × (ByteArray × (ByteArray × (Int × ((List Int) × (Int × (Int × Int)))))))
@[reducible] def CInsn : TC := (.st (.int .u8) (.st (.int .u8) (.st (.int .i64) (.st CO (.st CO (.st (.int .u8) (.st1 (.int .i64))))))))
abbrev DI : Type := (Int × (Int × (Int × (DO × (DO × (Int × Int))))))
@[reducible] def CForm : TC := (.st (.int .u8) (.st (.int .u8) (.st (.int .u8) (.st .bool (.st (.int .i64) (.st (.int .u8) (.st (.int .u8) (.st (.int .i64) (.st (.int .u8) (.st (.int .i64) (.st .bool (.st .bool (.st .bool (.st1 .bool))))))))))))))
abbrev DF : Type := (Int × (Int × (Int × (Bool × (Int × (Int × (Int × (Int × (Int × (Int × (Bool × (Bool × (Bool × Bool)))))))))))))
noncomputable def ty : TypeId → Option ATy
  | 1 => some { desc := Tryz.t1.desc, size := 1, bytes := 8, zero := (.raw .nilFunc), code := none }
  | 2 => some { desc := (.int .i64), size := 1, bytes := 8, zero := (.int .i64 0), code := (some (.int .i64)) }
  | 3 => some { desc := (.int .i64), size := 1, bytes := 8, zero := (.int .i64 0), code := (some (.int .i64)) }
  | 4 => some { desc := .bool, size := 1, bytes := 1, zero := (.bool false), code := (some .bool) }
  | 5 => some { desc := (.int .u8), size := 1, bytes := 1, zero := (.int .u8 0), code := (some (.int .u8)) }
  | 6 => some { desc := (.int .u8), size := 1, bytes := 1, zero := (.int .u8 0), code := (some (.int .u8)) }
  | 7 => some { desc := Tryz.t7.desc, size := 4, bytes := 24, zero := (.agg [1, 1, 1, 1] [(.int .i64 0), (.int .i64 0), (.bool false), (.int .u8 0)]), code := (some CboundsError) }
  | 8 => some { desc := Tryz.t7.desc, size := 4, bytes := 24, zero := (.agg [1, 1, 1, 1] [(.int .i64 0), (.int .i64 0), (.bool false), (.int .u8 0)]), code := (some CboundsError) }
  | 9 => some { desc := .string, size := 1, bytes := 16, zero := (.str ByteArray.empty), code := (some .str) }
  | 10 => some { desc := .string, size := 1, bytes := 16, zero := (.str ByteArray.empty), code := (some .str) }
  | 11 => some { desc := .string, size := 1, bytes := 16, zero := (.str ByteArray.empty), code := (some .str) }
  | 12 => some { desc := (.int .u64), size := 1, bytes := 8, zero := (.int .u64 0), code := (some (.int .u64)) }
  | 13 => some { desc := Tryz.t13.desc, size := 2, bytes := 24, zero := (.agg [1, 1] [(.str ByteArray.empty), (.int .u64 0)]), code := (some CerrorAddressString) }
  | 14 => some { desc := Tryz.t13.desc, size := 2, bytes := 24, zero := (.agg [1, 1] [(.str ByteArray.empty), (.int .u64 0)]), code := (some CerrorAddressString) }
  | 15 => some { desc := (.pointer 128), size := 1, bytes := 8, zero := (.raw (.pointer none)), code := none }
  | 16 => some { desc := (.pointer 131), size := 1, bytes := 8, zero := (.raw (.pointer none)), code := none }
  | 17 => some { desc := (.pointer 140), size := 1, bytes := 8, zero := (.raw (.pointer none)), code := none }
  | 18 => some { desc := Tryz.t18.desc, size := 1, bytes := 8, zero := (.agg [1] [(.raw (.pointer none))]), code := none }
  | 19 => some { desc := Tryz.t18.desc, size := 1, bytes := 8, zero := (.agg [1] [(.raw (.pointer none))]), code := none }
  | 20 => some { desc := Tryz.t20.desc, size := 1, bytes := 16, zero := (.raw .nilIface), code := none }
  | 21 => some { desc := (.int .i32), size := 1, bytes := 4, zero := (.int .i32 0), code := (some (.int .i32)) }
  | 22 => some { desc := Tryz.t22.desc, size := 8, bytes := 64, zero := (.agg [1, 1, 1, 1, 1, 1, 1, 1] [(.int .u8 0), (.int .i64 0), (.int .i64 0), (.int .i64 0), (.int .i64 0), (.int .i64 0), (.bool false), (.int .i64 0)]), code := (some CO) }
  | 23 => some { desc := Tryz.t22.desc, size := 8, bytes := 64, zero := (.agg [1, 1, 1, 1, 1, 1, 1, 1] [(.int .u8 0), (.int .i64 0), (.int .i64 0), (.int .i64 0), (.int .i64 0), (.int .i64 0), (.bool false), (.int .i64 0)]), code := (some CO) }
  | 24 => some { desc := Tryz.t24.desc, size := 21, bytes := 160, zero := (.agg [1, 1, 1, 8, 8, 1, 1] [(.int .u8 0), (.int .u8 0), (.int .i64 0), (.agg [1, 1, 1, 1, 1, 1, 1, 1] [(.int .u8 0), (.int .i64 0), (.int .i64 0), (.int .i64 0), (.int .i64 0), (.int .i64 0), (.bool false), (.int .i64 0)]), (.agg [1, 1, 1, 1, 1, 1, 1, 1] [(.int .u8 0), (.int .i64 0), (.int .i64 0), (.int .i64 0), (.int .i64 0), (.int .i64 0), (.bool false), (.int .i64 0)]), (.int .u8 0), (.int .i64 0)]), code := (some CInsn) }
  | 25 => some { desc := Tryz.t24.desc, size := 21, bytes := 160, zero := (.agg [1, 1, 1, 8, 8, 1, 1] [(.int .u8 0), (.int .u8 0), (.int .i64 0), (.agg [1, 1, 1, 1, 1, 1, 1, 1] [(.int .u8 0), (.int .i64 0), (.int .i64 0), (.int .i64 0), (.int .i64 0), (.int .i64 0), (.bool false), (.int .i64 0)]), (.agg [1, 1, 1, 1, 1, 1, 1, 1] [(.int .u8 0), (.int .i64 0), (.int .i64 0), (.int .i64 0), (.int .i64 0), (.int .i64 0), (.bool false), (.int .i64 0)]), (.int .u8 0), (.int .i64 0)]), code := (some CInsn) }
  | 26 => some { desc := (.slice 5), size := 1, bytes := 24, zero := (.raw (.slice none 0 0)), code := (some (.slice (.int .u8))) }
  | 27 => some { desc := Tryz.t27.desc, size := 1, bytes := 8, zero := (.raw .nilFunc), code := none }
  | 28 => some { desc := Tryz.t28.desc, size := 1, bytes := 8, zero := (.raw .nilFunc), code := none }
  | 29 => some { desc := (.int .i64), size := 1, bytes := 8, zero := (.int .i64 0), code := (some (.int .i64)) }
  | 31 => some { desc := Tryz.t31.desc, size := 1, bytes := 8, zero := (.raw .nilFunc), code := none }
  | 33 => some { desc := Tryz.t33.desc, size := 1, bytes := 8, zero := (.raw .nilFunc), code := none }
  | 34 => some { desc := Tryz.t34.desc, size := 1, bytes := 8, zero := (.raw .nilFunc), code := none }
  | 35 => some { desc := Tryz.t35.desc, size := 8, bytes := 96, zero := (.agg [1, 1, 1, 1, 1, 1, 1, 1] [(.int .i64 0), (.str ByteArray.empty), (.str ByteArray.empty), (.int .u8 0), (.raw (.slice none 0 0)), (.int .i64 0), (.int .i64 0), (.int .i64 0)]), code := (some Crow) }
  | 36 => some { desc := Tryz.t35.desc, size := 8, bytes := 96, zero := (.agg [1, 1, 1, 1, 1, 1, 1, 1] [(.int .i64 0), (.str ByteArray.empty), (.str ByteArray.empty), (.int .u8 0), (.raw (.slice none 0 0)), (.int .i64 0), (.int .i64 0), (.int .i64 0)]), code := (some Crow) }
  | 38 => some { desc := Tryz.t38.desc, size := 1, bytes := 8, zero := (.raw .nilFunc), code := none }
  | 39 => some { desc := Tryz.t39.desc, size := 1, bytes := 8, zero := (.raw .nilFunc), code := none }
  | 40 => some { desc := Tryz.t40.desc, size := 1, bytes := 8, zero := (.raw .nilFunc), code := none }
  | 41 => some { desc := Tryz.t41.desc, size := 1, bytes := 8, zero := (.raw .nilFunc), code := none }
  | 42 => some { desc := (.slice 3), size := 1, bytes := 24, zero := (.raw (.slice none 0 0)), code := (some (.slice (.int .i64))) }
  | 43 => some { desc := (.slice 49), size := 1, bytes := 24, zero := (.raw (.slice none 0 0)), code := none }
  | 44 => some { desc := Tryz.t44.desc, size := 3, bytes := 56, zero := (.agg [1, 1, 1] [(.raw (.slice none 0 0)), (.int .u8 0), (.raw (.slice none 0 0))]), code := none }
  | 45 => some { desc := Tryz.t44.desc, size := 3, bytes := 56, zero := (.agg [1, 1, 1] [(.raw (.slice none 0 0)), (.int .u8 0), (.raw (.slice none 0 0))]), code := none }
  | 46 => some { desc := Tryz.t46.desc, size := 1, bytes := 8, zero := (.raw .nilFunc), code := none }
  | 47 => some { desc := Tryz.t46.desc, size := 1, bytes := 8, zero := (.raw .nilFunc), code := none }
  | 48 => some { desc := Tryz.t48.desc, size := 6, bytes := 64, zero := (.agg [1, 1, 1, 1, 1, 1] [(.raw .nilFunc), (.raw .nilFunc), (.raw (.slice none 0 0)), (.int .i64 0), (.int .i64 0), (.int .i64 0)]), code := none }
  | 49 => some { desc := Tryz.t48.desc, size := 6, bytes := 64, zero := (.agg [1, 1, 1, 1, 1, 1] [(.raw .nilFunc), (.raw .nilFunc), (.raw (.slice none 0 0)), (.int .i64 0), (.int .i64 0), (.int .i64 0)]), code := none }
  | 51 => some { desc := Tryz.t51.desc, size := 1, bytes := 8, zero := (.raw .nilFunc), code := none }
  | 52 => some { desc := Tryz.t52.desc, size := 1, bytes := 8, zero := (.raw .nilFunc), code := none }
  | 53 => some { desc := Tryz.t53.desc, size := 1, bytes := 8, zero := (.raw .nilFunc), code := none }
  | 55 => some { desc := Tryz.t55.desc, size := 1, bytes := 8, zero := (.raw .nilFunc), code := none }
  | 56 => some { desc := (.int .u64), size := 1, bytes := 8, zero := (.int .u64 0), code := (some (.int .u64)) }
  | 57 => some { desc := Tryz.t57.desc, size := 1, bytes := 8, zero := (.raw .nilFunc), code := none }
  | 58 => some { desc := Tryz.t58.desc, size := 6, bytes := 16, zero := (.agg [1, 1, 1, 1, 1, 1] [(.int .u8 0), (.bool false), (.int .u8 0), (.int .u8 0), (.int .u8 0), (.int .i64 0)]), code := (some Chead) }
  | 59 => some { desc := Tryz.t58.desc, size := 6, bytes := 16, zero := (.agg [1, 1, 1, 1, 1, 1] [(.int .u8 0), (.bool false), (.int .u8 0), (.int .u8 0), (.int .u8 0), (.int .i64 0)]), code := (some Chead) }
  | 61 => some { desc := Tryz.t61.desc, size := 1, bytes := 8, zero := (.raw .nilFunc), code := none }
  | 62 => some { desc := Tryz.t62.desc, size := 14, bytes := 56, zero := (.agg [1, 1, 1, 1, 1, 1, 1, 1, 1, 1, 1, 1, 1, 1] [(.int .u8 0), (.int .u8 0), (.int .u8 0), (.bool false), (.int .i64 0), (.int .u8 0), (.int .u8 0), (.int .i64 0), (.int .u8 0), (.int .i64 0), (.bool false), (.bool false), (.bool false), (.bool false)]), code := (some CForm) }
  | 63 => some { desc := Tryz.t62.desc, size := 14, bytes := 56, zero := (.agg [1, 1, 1, 1, 1, 1, 1, 1, 1, 1, 1, 1, 1, 1] [(.int .u8 0), (.int .u8 0), (.int .u8 0), (.bool false), (.int .i64 0), (.int .u8 0), (.int .u8 0), (.int .i64 0), (.int .u8 0), (.int .i64 0), (.bool false), (.bool false), (.bool false), (.bool false)]), code := (some CForm) }
  | 65 => some { desc := Tryz.t65.desc, size := 1, bytes := 8, zero := (.raw .nilFunc), code := none }
  | 66 => some { desc := Tryz.t66.desc, size := 1, bytes := 8, zero := (.raw .nilFunc), code := none }
  | 68 => some { desc := Tryz.t68.desc, size := 1, bytes := 8, zero := (.raw .nilFunc), code := none }
  | 69 => some { desc := Tryz.t69.desc, size := 1, bytes := 8, zero := (.raw .nilFunc), code := none }
  | 70 => some { desc := Tryz.t70.desc, size := 1, bytes := 8, zero := (.raw .nilFunc), code := none }
  | 71 => some { desc := (.slice 36), size := 1, bytes := 24, zero := (.raw (.slice none 0 0)), code := (some (.slice Crow)) }
  | 72 => some { desc := Tryz.t72.desc, size := 1, bytes := 8, zero := (.raw .nilFunc), code := none }
  | 73 => some { desc := Tryz.t73.desc, size := 1, bytes := 8, zero := (.raw .nilFunc), code := none }
  | 74 => some { desc := Tryz.t74.desc, size := 1, bytes := 8, zero := (.raw .nilFunc), code := none }
  | 75 => some { desc := (.slice 25), size := 1, bytes := 24, zero := (.raw (.slice none 0 0)), code := (some (.slice CInsn)) }
  | 76 => some { desc := Tryz.t76.desc, size := 1, bytes := 8, zero := (.raw .nilFunc), code := none }
  | 77 => some { desc := Tryz.t76.desc, size := 1, bytes := 8, zero := (.raw .nilFunc), code := none }
  | 78 => some { desc := Tryz.t78.desc, size := 1, bytes := 8, zero := (.raw .nilFunc), code := none }
  | 79 => some { desc := Tryz.t79.desc, size := 1, bytes := 8, zero := (.raw .nilFunc), code := none }
  | 80 => some { desc := Tryz.t80.desc, size := 1, bytes := 8, zero := (.raw .nilFunc), code := none }
  | 82 => some { desc := Tryz.t82.desc, size := 1, bytes := 8, zero := (.raw .nilFunc), code := none }
  | 83 => some { desc := Tryz.t83.desc, size := 1, bytes := 8, zero := (.raw .nilFunc), code := none }
  | 84 => some { desc := (.slice 26), size := 1, bytes := 24, zero := (.raw (.slice none 0 0)), code := (some (.slice (.slice (.int .u8)))) }
  | 85 => some { desc := Tryz.t85.desc, size := 1, bytes := 8, zero := (.raw .nilFunc), code := none }
  | 86 => some { desc := (.slice 63), size := 1, bytes := 24, zero := (.raw (.slice none 0 0)), code := (some (.slice CForm)) }
  | 87 => some { desc := Tryz.t87.desc, size := 1, bytes := 8, zero := (.raw .nilFunc), code := none }
  | 88 => some { desc := Tryz.t88.desc, size := 1, bytes := 8, zero := (.raw .nilFunc), code := none }
  | 90 => some { desc := Tryz.t90.desc, size := 1, bytes := 8, zero := (.raw .nilFunc), code := none }
  | 91 => some { desc := (.int .u64), size := 1, bytes := 8, zero := (.int .u64 0), code := (some (.int .u64)) }
  | 92 => some { desc := Tryz.t92.desc, size := 1, bytes := 8, zero := (.raw .nilFunc), code := none }
  | 93 => some { desc := Tryz.t93.desc, size := 1, bytes := 8, zero := (.raw .nilFunc), code := none }
  | 94 => some { desc := Tryz.t94.desc, size := 1, bytes := 8, zero := (.raw .nilFunc), code := none }
  | 95 => some { desc := Tryz.t95.desc, size := 1, bytes := 8, zero := (.raw .nilFunc), code := none }
  | 96 => some { desc := (.slice 45), size := 1, bytes := 24, zero := (.raw (.slice none 0 0)), code := none }
  | 97 => some { desc := Tryz.t97.desc, size := 1, bytes := 8, zero := (.raw .nilFunc), code := none }
  | 98 => some { desc := Tryz.t98.desc, size := 1, bytes := 8, zero := (.raw .nilFunc), code := none }
  | 99 => some { desc := (.int .i8), size := 1, bytes := 1, zero := (.int .i8 0), code := (some (.int .i8)) }
  | 100 => some { desc := Tryz.t100.desc, size := 1, bytes := 8, zero := (.raw .nilFunc), code := none }
  | 101 => some { desc := (.int .u32), size := 1, bytes := 4, zero := (.int .u32 0), code := (some (.int .u32)) }
  | 102 => some { desc := Tryz.t102.desc, size := 1, bytes := 8, zero := (.raw .nilFunc), code := none }
  | 103 => some { desc := Tryz.t103.desc, size := 1, bytes := 8, zero := (.raw .nilFunc), code := none }
  | 104 => some { desc := Tryz.t104.desc, size := 1, bytes := 8, zero := (.raw .nilFunc), code := none }
  | 106 => some { desc := Tryz.t106.desc, size := 1, bytes := 8, zero := (.raw .nilFunc), code := none }
  | 107 => some { desc := Tryz.t107.desc, size := 1, bytes := 8, zero := (.raw .nilFunc), code := none }
  | 108 => some { desc := Tryz.t108.desc, size := 1, bytes := 8, zero := (.raw .nilFunc), code := none }
  | 109 => some { desc := Tryz.t109.desc, size := 1, bytes := 8, zero := (.raw .nilFunc), code := none }
  | 110 => some { desc := (.map 5 3), size := 1, bytes := 8, zero := (.raw (.map none)), code := none }
  | 111 => some { desc := Tryz.t111.desc, size := 1, bytes := 8, zero := (.raw .nilFunc), code := none }
  | 112 => some { desc := Tryz.t112.desc, size := 1, bytes := 8, zero := (.raw .nilFunc), code := none }
  | 113 => some { desc := Tryz.t113.desc, size := 1, bytes := 8, zero := (.raw .nilFunc), code := none }
  | 114 => some { desc := Tryz.t114.desc, size := 1, bytes := 8, zero := (.raw .nilFunc), code := none }
  | 115 => some { desc := Tryz.t115.desc, size := 1, bytes := 8, zero := (.raw .nilFunc), code := none }
  | 116 => some { desc := Tryz.t116.desc, size := 1, bytes := 8, zero := (.raw .nilFunc), code := none }
  | 117 => some { desc := (.map 5 114), size := 1, bytes := 8, zero := (.raw (.map none)), code := none }
  | 119 => some { desc := Tryz.t119.desc, size := 1, bytes := 8, zero := (.raw .nilFunc), code := none }
  | 120 => some { desc := (.array 32 5), size := 32, bytes := 32, zero := (.arr 32 (.int .u8) (List.replicate 32 (0 : Int))), code := (some (.arr 32 (.int .u8))) }
  | 121 => some { desc := (.array 64 5), size := 64, bytes := 64, zero := (.arr 64 (.int .u8) (List.replicate 64 (0 : Int))), code := (some (.arr 64 (.int .u8))) }
  | 122 => some { desc := (.array 8 5), size := 8, bytes := 8, zero := (.arr 8 (.int .u8) (List.replicate 8 (0 : Int))), code := (some (.arr 8 (.int .u8))) }
  | 123 => some { desc := (.array 5 3), size := 5, bytes := 40, zero := (.arr 5 (.int .i64) (List.replicate 5 (0 : Int))), code := (some (.arr 5 (.int .i64))) }
  | 124 => some { desc := (.array 5 5), size := 5, bytes := 5, zero := (.arr 5 (.int .u8) (List.replicate 5 (0 : Int))), code := (some (.arr 5 (.int .u8))) }
  | 125 => some { desc := Tryz.t125.desc, size := 1, bytes := 8, zero := (.raw .nilFunc), code := none }
  | 126 => some { desc := Tryz.t126.desc, size := 1, bytes := 8, zero := (.raw .nilFunc), code := none }
  | 127 => some { desc := Tryz.t127.desc, size := 4, bytes := 40, zero := (.agg [1, 1, 1, 1] [(.raw (.pointer none)), (.raw (.pointer none)), (.raw (.pointer none)), (.str ByteArray.empty)]), code := none }
  | 128 => some { desc := Tryz.t127.desc, size := 4, bytes := 40, zero := (.agg [1, 1, 1, 1] [(.raw (.pointer none)), (.raw (.pointer none)), (.raw (.pointer none)), (.str ByteArray.empty)]), code := none }
  | 129 => some { desc := (.array 0 16), size := 0, bytes := 0, zero := (.agg [] []), code := none }
  | 132 => some { desc := Tryz.t132.desc, size := 1, bytes := 8, zero := (.raw .nilFunc), code := none }
  | 133 => some { desc := (.int .u8), size := 1, bytes := 1, zero := (.int .u8 0), code := (some (.int .u8)) }
  | 134 => some { desc := (.int .u8), size := 1, bytes := 1, zero := (.int .u8 0), code := (some (.int .u8)) }
  | 135 => some { desc := Tryz.t135.desc, size := 1, bytes := 8, zero := (.raw .nilFunc), code := none }
  | 136 => some { desc := (.pointer 5), size := 1, bytes := 8, zero := (.raw (.pointer none)), code := none }
  | 137 => some { desc := (.int .i32), size := 1, bytes := 4, zero := (.int .i32 0), code := (some (.int .i32)) }
  | 138 => some { desc := (.int .i32), size := 1, bytes := 4, zero := (.int .i32 0), code := (some (.int .i32)) }
  | 139 => some { desc := Tryz.t139.desc, size := 11, bytes := 48, zero := (.agg [1, 1, 1, 1, 1, 1, 1, 1, 1, 1, 1] [(.int .u64 0), (.int .u64 0), (.int .u32 0), (.int .u8 0), (.int .u8 0), (.int .u8 0), (.int .u8 0), (.raw .nilFunc), (.raw (.pointer none)), (.int .i32 0), (.int .i32 0)]), code := none }
  | 140 => some { desc := Tryz.t139.desc, size := 11, bytes := 48, zero := (.agg [1, 1, 1, 1, 1, 1, 1, 1, 1, 1, 1] [(.int .u64 0), (.int .u64 0), (.int .u32 0), (.int .u8 0), (.int .u8 0), (.int .u8 0), (.int .u8 0), (.raw .nilFunc), (.raw (.pointer none)), (.int .i32 0), (.int .i32 0)]), code := none }
  | _ => none
theorem ty_ok : ∀ t d, ty t = some d → d.ok Tryz.prog t := by
  intro t d h
  unfold ty at h
  split at h
  · cases h; exact ATy.ok_of (i := Tryz.t1) Tryz.underlying1 Tryz.type1 rfl (by kernel_rfl)
  · cases h; exact ATy.ok_of (i := Tryz.t2) Tryz.underlying2 Tryz.type2 rfl (by kernel_rfl)
  · cases h; exact ATy.ok_of (i := Tryz.t3) Tryz.underlying3 Tryz.type3 rfl (by kernel_rfl)
  · cases h; exact ATy.ok_of (i := Tryz.t4) Tryz.underlying4 Tryz.type4 rfl (by kernel_rfl)
  · cases h; exact ATy.ok_of (i := Tryz.t5) Tryz.underlying5 Tryz.type5 rfl (by kernel_rfl)
  · cases h; exact ATy.ok_of (i := Tryz.t6) Tryz.underlying6 Tryz.type6 rfl (by kernel_rfl)
  · cases h; exact ATy.ok_of (i := Tryz.t7) Tryz.underlying7 Tryz.type7 rfl (by kernel_rfl)
  · cases h; exact ATy.ok_of (i := Tryz.t8) Tryz.underlying8 Tryz.type8 rfl (by kernel_rfl)
  · cases h; exact ATy.ok_of (i := Tryz.t9) Tryz.underlying9 Tryz.type9 rfl (by kernel_rfl)
  · cases h; exact ATy.ok_of (i := Tryz.t10) Tryz.underlying10 Tryz.type10 rfl (by kernel_rfl)
  · cases h; exact ATy.ok_of (i := Tryz.t11) Tryz.underlying11 Tryz.type11 rfl (by kernel_rfl)
  · cases h; exact ATy.ok_of (i := Tryz.t12) Tryz.underlying12 Tryz.type12 rfl (by kernel_rfl)
  · cases h; exact ATy.ok_of (i := Tryz.t13) Tryz.underlying13 Tryz.type13 rfl (by kernel_rfl)
  · cases h; exact ATy.ok_of (i := Tryz.t14) Tryz.underlying14 Tryz.type14 rfl (by kernel_rfl)
  · cases h; exact ATy.ok_of (i := Tryz.t15) Tryz.underlying15 Tryz.type15 rfl (by kernel_rfl)
  · cases h; exact ATy.ok_of (i := Tryz.t16) Tryz.underlying16 Tryz.type16 rfl (by kernel_rfl)
  · cases h; exact ATy.ok_of (i := Tryz.t17) Tryz.underlying17 Tryz.type17 rfl (by kernel_rfl)
  · cases h; exact ATy.ok_of (i := Tryz.t18) Tryz.underlying18 Tryz.type18 rfl (by kernel_rfl)
  · cases h; exact ATy.ok_of (i := Tryz.t19) Tryz.underlying19 Tryz.type19 rfl (by kernel_rfl)
  · cases h; exact ATy.ok_of (i := Tryz.t20) Tryz.underlying20 Tryz.type20 rfl (by kernel_rfl)
  · cases h; exact ATy.ok_of (i := Tryz.t21) Tryz.underlying21 Tryz.type21 rfl (by kernel_rfl)
  · cases h; exact ATy.ok_of (i := Tryz.t22) Tryz.underlying22 Tryz.type22 rfl (by kernel_rfl)
  · cases h; exact ATy.ok_of (i := Tryz.t23) Tryz.underlying23 Tryz.type23 rfl (by kernel_rfl)
  · cases h; exact ATy.ok_of (i := Tryz.t24) Tryz.underlying24 Tryz.type24 rfl (by kernel_rfl)
  · cases h; exact ATy.ok_of (i := Tryz.t25) Tryz.underlying25 Tryz.type25 rfl (by kernel_rfl)
  · cases h; exact ATy.ok_of (i := Tryz.t26) Tryz.underlying26 Tryz.type26 rfl (by kernel_rfl)
  · cases h; exact ATy.ok_of (i := Tryz.t27) Tryz.underlying27 Tryz.type27 rfl (by kernel_rfl)
  · cases h; exact ATy.ok_of (i := Tryz.t28) Tryz.underlying28 Tryz.type28 rfl (by kernel_rfl)
  · cases h; exact ATy.ok_of (i := Tryz.t29) Tryz.underlying29 Tryz.type29 rfl (by kernel_rfl)
  · cases h; exact ATy.ok_of (i := Tryz.t31) Tryz.underlying31 Tryz.type31 rfl (by kernel_rfl)
  · cases h; exact ATy.ok_of (i := Tryz.t33) Tryz.underlying33 Tryz.type33 rfl (by kernel_rfl)
  · cases h; exact ATy.ok_of (i := Tryz.t34) Tryz.underlying34 Tryz.type34 rfl (by kernel_rfl)
  · cases h; exact ATy.ok_of (i := Tryz.t35) Tryz.underlying35 Tryz.type35 rfl (by kernel_rfl)
  · cases h; exact ATy.ok_of (i := Tryz.t36) Tryz.underlying36 Tryz.type36 rfl (by kernel_rfl)
  · cases h; exact ATy.ok_of (i := Tryz.t38) Tryz.underlying38 Tryz.type38 rfl (by kernel_rfl)
  · cases h; exact ATy.ok_of (i := Tryz.t39) Tryz.underlying39 Tryz.type39 rfl (by kernel_rfl)
  · cases h; exact ATy.ok_of (i := Tryz.t40) Tryz.underlying40 Tryz.type40 rfl (by kernel_rfl)
  · cases h; exact ATy.ok_of (i := Tryz.t41) Tryz.underlying41 Tryz.type41 rfl (by kernel_rfl)
  · cases h; exact ATy.ok_of (i := Tryz.t42) Tryz.underlying42 Tryz.type42 rfl (by kernel_rfl)
  · cases h; exact ATy.ok_of (i := Tryz.t43) Tryz.underlying43 Tryz.type43 rfl (by kernel_rfl)
  · cases h; exact ATy.ok_of (i := Tryz.t44) Tryz.underlying44 Tryz.type44 rfl (by kernel_rfl)
  · cases h; exact ATy.ok_of (i := Tryz.t45) Tryz.underlying45 Tryz.type45 rfl (by kernel_rfl)
  · cases h; exact ATy.ok_of (i := Tryz.t46) Tryz.underlying46 Tryz.type46 rfl (by kernel_rfl)
  · cases h; exact ATy.ok_of (i := Tryz.t47) Tryz.underlying47 Tryz.type47 rfl (by kernel_rfl)
  · cases h; exact ATy.ok_of (i := Tryz.t48) Tryz.underlying48 Tryz.type48 rfl (by kernel_rfl)
  · cases h; exact ATy.ok_of (i := Tryz.t49) Tryz.underlying49 Tryz.type49 rfl (by kernel_rfl)
  · cases h; exact ATy.ok_of (i := Tryz.t51) Tryz.underlying51 Tryz.type51 rfl (by kernel_rfl)
  · cases h; exact ATy.ok_of (i := Tryz.t52) Tryz.underlying52 Tryz.type52 rfl (by kernel_rfl)
  · cases h; exact ATy.ok_of (i := Tryz.t53) Tryz.underlying53 Tryz.type53 rfl (by kernel_rfl)
  · cases h; exact ATy.ok_of (i := Tryz.t55) Tryz.underlying55 Tryz.type55 rfl (by kernel_rfl)
  · cases h; exact ATy.ok_of (i := Tryz.t56) Tryz.underlying56 Tryz.type56 rfl (by kernel_rfl)
  · cases h; exact ATy.ok_of (i := Tryz.t57) Tryz.underlying57 Tryz.type57 rfl (by kernel_rfl)
  · cases h; exact ATy.ok_of (i := Tryz.t58) Tryz.underlying58 Tryz.type58 rfl (by kernel_rfl)
  · cases h; exact ATy.ok_of (i := Tryz.t59) Tryz.underlying59 Tryz.type59 rfl (by kernel_rfl)
  · cases h; exact ATy.ok_of (i := Tryz.t61) Tryz.underlying61 Tryz.type61 rfl (by kernel_rfl)
  · cases h; exact ATy.ok_of (i := Tryz.t62) Tryz.underlying62 Tryz.type62 rfl (by kernel_rfl)
  · cases h; exact ATy.ok_of (i := Tryz.t63) Tryz.underlying63 Tryz.type63 rfl (by kernel_rfl)
  · cases h; exact ATy.ok_of (i := Tryz.t65) Tryz.underlying65 Tryz.type65 rfl (by kernel_rfl)
  · cases h; exact ATy.ok_of (i := Tryz.t66) Tryz.underlying66 Tryz.type66 rfl (by kernel_rfl)
  · cases h; exact ATy.ok_of (i := Tryz.t68) Tryz.underlying68 Tryz.type68 rfl (by kernel_rfl)
  · cases h; exact ATy.ok_of (i := Tryz.t69) Tryz.underlying69 Tryz.type69 rfl (by kernel_rfl)
  · cases h; exact ATy.ok_of (i := Tryz.t70) Tryz.underlying70 Tryz.type70 rfl (by kernel_rfl)
  · cases h; exact ATy.ok_of (i := Tryz.t71) Tryz.underlying71 Tryz.type71 rfl (by kernel_rfl)
  · cases h; exact ATy.ok_of (i := Tryz.t72) Tryz.underlying72 Tryz.type72 rfl (by kernel_rfl)
  · cases h; exact ATy.ok_of (i := Tryz.t73) Tryz.underlying73 Tryz.type73 rfl (by kernel_rfl)
  · cases h; exact ATy.ok_of (i := Tryz.t74) Tryz.underlying74 Tryz.type74 rfl (by kernel_rfl)
  · cases h; exact ATy.ok_of (i := Tryz.t75) Tryz.underlying75 Tryz.type75 rfl (by kernel_rfl)
  · cases h; exact ATy.ok_of (i := Tryz.t76) Tryz.underlying76 Tryz.type76 rfl (by kernel_rfl)
  · cases h; exact ATy.ok_of (i := Tryz.t77) Tryz.underlying77 Tryz.type77 rfl (by kernel_rfl)
  · cases h; exact ATy.ok_of (i := Tryz.t78) Tryz.underlying78 Tryz.type78 rfl (by kernel_rfl)
  · cases h; exact ATy.ok_of (i := Tryz.t79) Tryz.underlying79 Tryz.type79 rfl (by kernel_rfl)
  · cases h; exact ATy.ok_of (i := Tryz.t80) Tryz.underlying80 Tryz.type80 rfl (by kernel_rfl)
  · cases h; exact ATy.ok_of (i := Tryz.t82) Tryz.underlying82 Tryz.type82 rfl (by kernel_rfl)
  · cases h; exact ATy.ok_of (i := Tryz.t83) Tryz.underlying83 Tryz.type83 rfl (by kernel_rfl)
  · cases h; exact ATy.ok_of (i := Tryz.t84) Tryz.underlying84 Tryz.type84 rfl (by kernel_rfl)
  · cases h; exact ATy.ok_of (i := Tryz.t85) Tryz.underlying85 Tryz.type85 rfl (by kernel_rfl)
  · cases h; exact ATy.ok_of (i := Tryz.t86) Tryz.underlying86 Tryz.type86 rfl (by kernel_rfl)
  · cases h; exact ATy.ok_of (i := Tryz.t87) Tryz.underlying87 Tryz.type87 rfl (by kernel_rfl)
  · cases h; exact ATy.ok_of (i := Tryz.t88) Tryz.underlying88 Tryz.type88 rfl (by kernel_rfl)
  · cases h; exact ATy.ok_of (i := Tryz.t90) Tryz.underlying90 Tryz.type90 rfl (by kernel_rfl)
  · cases h; exact ATy.ok_of (i := Tryz.t91) Tryz.underlying91 Tryz.type91 rfl (by kernel_rfl)
  · cases h; exact ATy.ok_of (i := Tryz.t92) Tryz.underlying92 Tryz.type92 rfl (by kernel_rfl)
  · cases h; exact ATy.ok_of (i := Tryz.t93) Tryz.underlying93 Tryz.type93 rfl (by kernel_rfl)
  · cases h; exact ATy.ok_of (i := Tryz.t94) Tryz.underlying94 Tryz.type94 rfl (by kernel_rfl)
  · cases h; exact ATy.ok_of (i := Tryz.t95) Tryz.underlying95 Tryz.type95 rfl (by kernel_rfl)
  · cases h; exact ATy.ok_of (i := Tryz.t96) Tryz.underlying96 Tryz.type96 rfl (by kernel_rfl)
  · cases h; exact ATy.ok_of (i := Tryz.t97) Tryz.underlying97 Tryz.type97 rfl (by kernel_rfl)
  · cases h; exact ATy.ok_of (i := Tryz.t98) Tryz.underlying98 Tryz.type98 rfl (by kernel_rfl)
  · cases h; exact ATy.ok_of (i := Tryz.t99) Tryz.underlying99 Tryz.type99 rfl (by kernel_rfl)
  · cases h; exact ATy.ok_of (i := Tryz.t100) Tryz.underlying100 Tryz.type100 rfl (by kernel_rfl)
  · cases h; exact ATy.ok_of (i := Tryz.t101) Tryz.underlying101 Tryz.type101 rfl (by kernel_rfl)
  · cases h; exact ATy.ok_of (i := Tryz.t102) Tryz.underlying102 Tryz.type102 rfl (by kernel_rfl)
  · cases h; exact ATy.ok_of (i := Tryz.t103) Tryz.underlying103 Tryz.type103 rfl (by kernel_rfl)
  · cases h; exact ATy.ok_of (i := Tryz.t104) Tryz.underlying104 Tryz.type104 rfl (by kernel_rfl)
  · cases h; exact ATy.ok_of (i := Tryz.t106) Tryz.underlying106 Tryz.type106 rfl (by kernel_rfl)
  · cases h; exact ATy.ok_of (i := Tryz.t107) Tryz.underlying107 Tryz.type107 rfl (by kernel_rfl)
  · cases h; exact ATy.ok_of (i := Tryz.t108) Tryz.underlying108 Tryz.type108 rfl (by kernel_rfl)
  · cases h; exact ATy.ok_of (i := Tryz.t109) Tryz.underlying109 Tryz.type109 rfl (by kernel_rfl)
  · cases h; exact ATy.ok_of (i := Tryz.t110) Tryz.underlying110 Tryz.type110 rfl (by kernel_rfl)
  · cases h; exact ATy.ok_of (i := Tryz.t111) Tryz.underlying111 Tryz.type111 rfl (by kernel_rfl)
  · cases h; exact ATy.ok_of (i := Tryz.t112) Tryz.underlying112 Tryz.type112 rfl (by kernel_rfl)
  · cases h; exact ATy.ok_of (i := Tryz.t113) Tryz.underlying113 Tryz.type113 rfl (by kernel_rfl)
  · cases h; exact ATy.ok_of (i := Tryz.t114) Tryz.underlying114 Tryz.type114 rfl (by kernel_rfl)
  · cases h; exact ATy.ok_of (i := Tryz.t115) Tryz.underlying115 Tryz.type115 rfl (by kernel_rfl)
  · cases h; exact ATy.ok_of (i := Tryz.t116) Tryz.underlying116 Tryz.type116 rfl (by kernel_rfl)
  · cases h; exact ATy.ok_of (i := Tryz.t117) Tryz.underlying117 Tryz.type117 rfl (by kernel_rfl)
  · cases h; exact ATy.ok_of (i := Tryz.t119) Tryz.underlying119 Tryz.type119 rfl (by kernel_rfl)
  · cases h; exact ATy.ok_of (i := Tryz.t120) Tryz.underlying120 Tryz.type120 rfl (by kernel_rfl)
  · cases h; exact ATy.ok_of (i := Tryz.t121) Tryz.underlying121 Tryz.type121 rfl (by kernel_rfl)
  · cases h; exact ATy.ok_of (i := Tryz.t122) Tryz.underlying122 Tryz.type122 rfl (by kernel_rfl)
  · cases h; exact ATy.ok_of (i := Tryz.t123) Tryz.underlying123 Tryz.type123 rfl (by kernel_rfl)
  · cases h; exact ATy.ok_of (i := Tryz.t124) Tryz.underlying124 Tryz.type124 rfl (by kernel_rfl)
  · cases h; exact ATy.ok_of (i := Tryz.t125) Tryz.underlying125 Tryz.type125 rfl (by kernel_rfl)
  · cases h; exact ATy.ok_of (i := Tryz.t126) Tryz.underlying126 Tryz.type126 rfl (by kernel_rfl)
  · cases h; exact ATy.ok_of (i := Tryz.t127) Tryz.underlying127 Tryz.type127 rfl (by kernel_rfl)
  · cases h; exact ATy.ok_of (i := Tryz.t128) Tryz.underlying128 Tryz.type128 rfl (by kernel_rfl)
  · cases h; exact ATy.ok_of (i := Tryz.t129) Tryz.underlying129 Tryz.type129 rfl (by kernel_rfl)
  · cases h; exact ATy.ok_of (i := Tryz.t132) Tryz.underlying132 Tryz.type132 rfl (by kernel_rfl)
  · cases h; exact ATy.ok_of (i := Tryz.t133) Tryz.underlying133 Tryz.type133 rfl (by kernel_rfl)
  · cases h; exact ATy.ok_of (i := Tryz.t134) Tryz.underlying134 Tryz.type134 rfl (by kernel_rfl)
  · cases h; exact ATy.ok_of (i := Tryz.t135) Tryz.underlying135 Tryz.type135 rfl (by kernel_rfl)
  · cases h; exact ATy.ok_of (i := Tryz.t136) Tryz.underlying136 Tryz.type136 rfl (by kernel_rfl)
  · cases h; exact ATy.ok_of (i := Tryz.t137) Tryz.underlying137 Tryz.type137 rfl (by kernel_rfl)
  · cases h; exact ATy.ok_of (i := Tryz.t138) Tryz.underlying138 Tryz.type138 rfl (by kernel_rfl)
  · cases h; exact ATy.ok_of (i := Tryz.t139) Tryz.underlying139 Tryz.type139 rfl (by kernel_rfl)
  · cases h; exact ATy.ok_of (i := Tryz.t140) Tryz.underlying140 Tryz.type140 rfl (by kernel_rfl)
  · cases h
noncomputable def fns : FuncId → Option Func
  | 3 => some Tryz.f3
  | 4 => some Tryz.f4
  | 5 => some Tryz.f5
  | 6 => some Tryz.f6
  | 7 => some Tryz.f7
  | 8 => some Tryz.f8
  | 9 => some Tryz.f9
  | 10 => some Tryz.f10
  | 11 => some Tryz.f11
  | 12 => some Tryz.f12
  | 13 => some Tryz.f13
  | 14 => some Tryz.f14
  | 15 => some Tryz.f15
  | 16 => some Tryz.f16
  | 17 => some Tryz.f17
  | 18 => some Tryz.f18
  | 19 => some Tryz.f19
  | 20 => some Tryz.f20
  | 21 => some Tryz.f21
  | 22 => some Tryz.f22
  | 23 => some Tryz.f23
  | 24 => some Tryz.f24
  | 25 => some Tryz.f25
  | 26 => some Tryz.f26
  | 27 => some Tryz.f27
  | 28 => some Tryz.f28
  | 29 => some Tryz.f29
  | 30 => some Tryz.f30
  | 31 => some Tryz.f31
  | 32 => some Tryz.f32
  | 33 => some Tryz.f33
  | 34 => some Tryz.f34
  | 35 => some Tryz.f35
  | 36 => some Tryz.f36
  | 37 => some Tryz.f37
  | 38 => some Tryz.f38
  | 39 => some Tryz.f39
  | 40 => some Tryz.f40
  | 41 => some Tryz.f41
  | 42 => some Tryz.f42
  | 43 => some Tryz.f43
  | 44 => some Tryz.f44
  | 45 => some Tryz.f45
  | 46 => some Tryz.f46
  | 47 => some Tryz.f47
  | 48 => some Tryz.f48
  | 49 => some Tryz.f49
  | 50 => some Tryz.f50
  | 51 => some Tryz.f51
  | 52 => some Tryz.f52
  | 53 => some Tryz.f53
  | 55 => some Tryz.f55
  | 56 => some Tryz.f56
  | 57 => some Tryz.f57
  | 58 => some Tryz.f58
  | 59 => some Tryz.f59
  | 60 => some Tryz.f60
  | 61 => some Tryz.f61
  | 62 => some Tryz.f62
  | 63 => some Tryz.f63
  | 64 => some Tryz.f64
  | 65 => some Tryz.f65
  | 66 => some Tryz.f66
  | 67 => some Tryz.f67
  | 68 => some Tryz.f68
  | 69 => some Tryz.f69
  | 70 => some Tryz.f70
  | 71 => some Tryz.f71
  | 72 => some Tryz.f72
  | 73 => some Tryz.f73
  | 74 => some Tryz.f74
  | 75 => some Tryz.f75
  | 76 => some Tryz.f76
  | 77 => some Tryz.f77
  | 78 => some Tryz.f78
  | 79 => some Tryz.f79
  | 80 => some Tryz.f80
  | 81 => some Tryz.f81
  | 82 => some Tryz.f82
  | 83 => some Tryz.f83
  | 84 => some Tryz.f84
  | 85 => some Tryz.f85
  | 86 => some Tryz.f86
  | 87 => some Tryz.f87
  | 88 => some Tryz.f88
  | 89 => some Tryz.f89
  | 90 => some Tryz.f90
  | 91 => some Tryz.f91
  | 92 => some Tryz.f92
  | 93 => some Tryz.f93
  | 94 => some Tryz.f94
  | 95 => some Tryz.f95
  | 96 => some Tryz.f96
  | 97 => some Tryz.f97
  | 98 => some Tryz.f98
  | 99 => some Tryz.f99
  | 100 => some Tryz.f100
  | 101 => some Tryz.f101
  | 102 => some Tryz.f102
  | 103 => some Tryz.f103
  | 104 => some Tryz.f104
  | 105 => some Tryz.f105
  | 106 => some Tryz.f106
  | 107 => some Tryz.f107
  | 108 => some Tryz.f108
  | _ => none
theorem fns_ok : ∀ f fn, fns f = some fn → Tryz.prog.funcs[f]? = some fn ∧ (fn.name == "runtime.NumGoroutine") = false := by
  intro f fn h
  unfold fns at h
  split at h
  · cases h; exact ⟨Tryz.func3, by kernel_rfl⟩
  · cases h; exact ⟨Tryz.func4, by kernel_rfl⟩
  · cases h; exact ⟨Tryz.func5, by kernel_rfl⟩
  · cases h; exact ⟨Tryz.func6, by kernel_rfl⟩
  · cases h; exact ⟨Tryz.func7, by kernel_rfl⟩
  · cases h; exact ⟨Tryz.func8, by kernel_rfl⟩
  · cases h; exact ⟨Tryz.func9, by kernel_rfl⟩
  · cases h; exact ⟨Tryz.func10, by kernel_rfl⟩
  · cases h; exact ⟨Tryz.func11, by kernel_rfl⟩
  · cases h; exact ⟨Tryz.func12, by kernel_rfl⟩
  · cases h; exact ⟨Tryz.func13, by kernel_rfl⟩
  · cases h; exact ⟨Tryz.func14, by kernel_rfl⟩
  · cases h; exact ⟨Tryz.func15, by kernel_rfl⟩
  · cases h; exact ⟨Tryz.func16, by kernel_rfl⟩
  · cases h; exact ⟨Tryz.func17, by kernel_rfl⟩
  · cases h; exact ⟨Tryz.func18, by kernel_rfl⟩
  · cases h; exact ⟨Tryz.func19, by kernel_rfl⟩
  · cases h; exact ⟨Tryz.func20, by kernel_rfl⟩
  · cases h; exact ⟨Tryz.func21, by kernel_rfl⟩
  · cases h; exact ⟨Tryz.func22, by kernel_rfl⟩
  · cases h; exact ⟨Tryz.func23, by kernel_rfl⟩
  · cases h; exact ⟨Tryz.func24, by kernel_rfl⟩
  · cases h; exact ⟨Tryz.func25, by kernel_rfl⟩
  · cases h; exact ⟨Tryz.func26, by kernel_rfl⟩
  · cases h; exact ⟨Tryz.func27, by kernel_rfl⟩
  · cases h; exact ⟨Tryz.func28, by kernel_rfl⟩
  · cases h; exact ⟨Tryz.func29, by kernel_rfl⟩
  · cases h; exact ⟨Tryz.func30, by kernel_rfl⟩
  · cases h; exact ⟨Tryz.func31, by kernel_rfl⟩
  · cases h; exact ⟨Tryz.func32, by kernel_rfl⟩
  · cases h; exact ⟨Tryz.func33, by kernel_rfl⟩
  · cases h; exact ⟨Tryz.func34, by kernel_rfl⟩
  · cases h; exact ⟨Tryz.func35, by kernel_rfl⟩
  · cases h; exact ⟨Tryz.func36, by kernel_rfl⟩
  · cases h; exact ⟨Tryz.func37, by kernel_rfl⟩
  · cases h; exact ⟨Tryz.func38, by kernel_rfl⟩
  · cases h; exact ⟨Tryz.func39, by kernel_rfl⟩
  · cases h; exact ⟨Tryz.func40, by kernel_rfl⟩
  · cases h; exact ⟨Tryz.func41, by kernel_rfl⟩
  · cases h; exact ⟨Tryz.func42, by kernel_rfl⟩
  · cases h; exact ⟨Tryz.func43, by kernel_rfl⟩
  · cases h; exact ⟨Tryz.func44, by kernel_rfl⟩
  · cases h; exact ⟨Tryz.func45, by kernel_rfl⟩
  · cases h; exact ⟨Tryz.func46, by kernel_rfl⟩
  · cases h; exact ⟨Tryz.func47, by kernel_rfl⟩
  · cases h; exact ⟨Tryz.func48, by kernel_rfl⟩
  · cases h; exact ⟨Tryz.func49, by kernel_rfl⟩
  · cases h; exact ⟨Tryz.func50, by kernel_rfl⟩
  · cases h; exact ⟨Tryz.func51, by kernel_rfl⟩
  · cases h; exact ⟨Tryz.func52, by kernel_rfl⟩
  · cases h; exact ⟨Tryz.func53, by kernel_rfl⟩
  · cases h; exact ⟨Tryz.func55, by kernel_rfl⟩
  · cases h; exact ⟨Tryz.func56, by kernel_rfl⟩
  · cases h; exact ⟨Tryz.func57, by kernel_rfl⟩
  · cases h; exact ⟨Tryz.func58, by kernel_rfl⟩
  · cases h; exact ⟨Tryz.func59, by kernel_rfl⟩
  · cases h; exact ⟨Tryz.func60, by kernel_rfl⟩
  · cases h; exact ⟨Tryz.func61, by kernel_rfl⟩
  · cases h; exact ⟨Tryz.func62, by kernel_rfl⟩
  · cases h; exact ⟨Tryz.func63, by kernel_rfl⟩
  · cases h; exact ⟨Tryz.func64, by kernel_rfl⟩
  · cases h; exact ⟨Tryz.func65, by kernel_rfl⟩
  · cases h; exact ⟨Tryz.func66, by kernel_rfl⟩
  · cases h; exact ⟨Tryz.func67, by kernel_rfl⟩
  · cases h; exact ⟨Tryz.func68, by kernel_rfl⟩
  · cases h; exact ⟨Tryz.func69, by kernel_rfl⟩
  · cases h; exact ⟨Tryz.func70, by kernel_rfl⟩
  · cases h; exact ⟨Tryz.func71, by kernel_rfl⟩
  · cases h; exact ⟨Tryz.func72, by kernel_rfl⟩
  · cases h; exact ⟨Tryz.func73, by kernel_rfl⟩
  · cases h; exact ⟨Tryz.func74, by kernel_rfl⟩
  · cases h; exact ⟨Tryz.func75, by kernel_rfl⟩
  · cases h; exact ⟨Tryz.func76, by kernel_rfl⟩
  · cases h; exact ⟨Tryz.func77, by kernel_rfl⟩
  · cases h; exact ⟨Tryz.func78, by kernel_rfl⟩
  · cases h; exact ⟨Tryz.func79, by kernel_rfl⟩
  · cases h; exact ⟨Tryz.func80, by kernel_rfl⟩
  · cases h; exact ⟨Tryz.func81, by kernel_rfl⟩
  · cases h; exact ⟨Tryz.func82, by kernel_rfl⟩
  · cases h; exact ⟨Tryz.func83, by kernel_rfl⟩
  · cases h; exact ⟨Tryz.func84, by kernel_rfl⟩
  · cases h; exact ⟨Tryz.func85, by kernel_rfl⟩
  · cases h; exact ⟨Tryz.func86, by kernel_rfl⟩
  · cases h; exact ⟨Tryz.func87, by kernel_rfl⟩
  · cases h; exact ⟨Tryz.func88, by kernel_rfl⟩
  · cases h; exact ⟨Tryz.func89, by kernel_rfl⟩
  · cases h; exact ⟨Tryz.func90, by kernel_rfl⟩
  · cases h; exact ⟨Tryz.func91, by kernel_rfl⟩
  · cases h; exact ⟨Tryz.func92, by kernel_rfl⟩
  · cases h; exact ⟨Tryz.func93, by kernel_rfl⟩
  · cases h; exact ⟨Tryz.func94, by kernel_rfl⟩
  · cases h; exact ⟨Tryz.func95, by kernel_rfl⟩
  · cases h; exact ⟨Tryz.func96, by kernel_rfl⟩
  · cases h; exact ⟨Tryz.func97, by kernel_rfl⟩
  · cases h; exact ⟨Tryz.func98, by kernel_rfl⟩
  · cases h; exact ⟨Tryz.func99, by kernel_rfl⟩
  · cases h; exact ⟨Tryz.func100, by kernel_rfl⟩
  · cases h; exact ⟨Tryz.func101, by kernel_rfl⟩
  · cases h; exact ⟨Tryz.func102, by kernel_rfl⟩
  · cases h; exact ⟨Tryz.func103, by kernel_rfl⟩
  · cases h; exact ⟨Tryz.func104, by kernel_rfl⟩
  · cases h; exact ⟨Tryz.func105, by kernel_rfl⟩
  · cases h; exact ⟨Tryz.func106, by kernel_rfl⟩
  · cases h; exact ⟨Tryz.func107, by kernel_rfl⟩
  · cases h; exact ⟨Tryz.func108, by kernel_rfl⟩
  · cases h
theorem mixed : Tryz.prog.follows .mixedOrders = true := by kernel_rfl
noncomputable def glob : Nat → Option AV
  | 0 => some (.arr 32 (.int .u8) [0, 1, 28, 2, 29, 14, 24, 3, 30, 22, 20, 15, 25, 17, 4, 8, 31, 27, 13, 23, 21, 19, 16, 7, 26, 12, 18, 6, 11, 5, 10, 9])
  | 1 => some (.arr 64 (.int .u8) [0, 1, 56, 2, 57, 49, 28, 3, 61, 58, 42, 50, 38, 29, 17, 4, 62, 47, 59, 36, 45, 43, 51, 22, 53, 39, 33, 30, 24, 18, 12, 5, 63, 55, 48, 27, 60, 41, 37, 16, 46, 35, 44, 21, 52, 32, 23, 11, 54, 26, 40, 15, 34, 20, 31, 10, 25, 14, 19, 9, 13, 8, 7, 6])
  | _ => none
def sched : FuncId → Nat → Option Sch
  | 6, 8 => some (.one 0 (.one 1 (.one 3 (.two 2 4 (.one 5 (.one 6 (.one 4 (.one 7 .fin)))) (.one 2 (.one 5 (.one 6 (.one 7 .fin))))))))
  | 6, 4 => some (.one 0 (.one 1 (.one 2 (.one 3 (.one 4 (.one 5 (.two 6 7 (.one 7 (.one 8 (.one 9 .fin))) (.one 6 (.one 8 (.one 9 .fin))))))))))
  | 7, 14 => some (.one 0 (.one 1 (.one 2 (.one 3 (.one 4 (.one 5 (.one 6 (.one 7 (.one 8 (.one 9 (.one 10 (.one 11 (.two 12 13 (.one 13 (.one 14 (.one 15 (.one 16 (.one 17 .fin))))) (.one 12 (.one 14 (.one 15 (.one 16 (.one 17 .fin))))))))))))))))))
  | 17, 7 => some (.one 0 (.one 1 (.one 2 (.one 3 (.one 4 (.one 5 (.one 7 (.one 8 (.one 9 (.one 10 (.one 11 (.one 6 (.one 12 (.one 13 (.one 14 .fin)))))))))))))))
  | _, _ => none
def split : FuncId → Nat → Option (Nat × List Step × Nat)
  | 17, 21 => some (10, [], 5)
  | _, _ => none
def exact : FuncId → Bool
  | 19 => true
  | 37 => true
  | _ => false
def apart : FuncId → Bool
  | _ => false
theorem apart_ok : ∀ f, apart f = true → ApartOk Tryz.prog f := by
  intro f h
  unfold apart at h
  split at h
  · cases h
noncomputable def env (sp : FuncId → Option Spec) (mk : FuncId → Nat → Option (List Nat)) : Env := { P := Tryz.prog, ty := ty, fns := fns, glob := glob, spec := sp, mask := mk, exact := exact, apart := apart, split := split, sched := sched }
noncomputable abbrev env0 : Env := env (fun _ => none) (fun _ _ => none)
theorem valid (sp : FuncId → Option Spec) (mk : FuncId → Nat → Option (List Nat)) : (env sp mk).Valid := ⟨ty_ok, fns_ok, mixed, apart_ok⟩
end Go.Eng.RZ
end
section
/- The two tables that encode's laws lay. -/
namespace Go.Eng.RZ
open Go.Proofs Go.Eng Go.RowKit
def tab32 : List Int := [0, 1, 28, 2, 29, 14, 24, 3, 30, 22, 20, 15, 25, 17, 4, 8, 31, 27, 13, 23, 21, 19, 16, 7, 26, 12, 18, 6, 11, 5, 10, 9]
def tab64 : List Int := [0, 1, 56, 2, 57, 49, 28, 3, 61, 58, 42, 50, 38, 29, 17, 4, 62, 47, 59, 36, 45, 43, 51, 22, 53, 39, 33, 30, 24, 18, 12, 5, 63, 55, 48, 27, 60, 41, 37, 16, 46, 35, 44, 21, 52, 32, 23, 11, 54, 26, 40, 15, 34, 20, 31, 10, 25, 14, 19, 9, 13, 8, 7, 6]
theorem laid_two {W : World} (hL : laidMet Tryz.prog [("math/bits.deBruijn32tab", Lib.tabData .u8 tab32), ("math/bits.deBruijn64tab", Lib.tabData .u8 tab64)] W) : GlobRep env0 ⟨W, protAll W, []⟩ := by
  have h := Lib.tabIs_of_head (g := 0) (by kernel_rfl) (by kernel_rfl) Tryz.underlying120 Tryz.underlying5 (by kernel_rfl) (by kernel_rfl) hL
  have h' := Lib.tabIs_of_head (g := 1) (by kernel_rfl) (by kernel_rfl) Tryz.underlying121 Tryz.underlying5 (by kernel_rfl) (by kernel_rfl) (laidMet.tail hL)
  have hg : Tryz.prog.globalNamed "math/bits.deBruijn32tab" = some 0 := by kernel_rfl
  have hg' : Tryz.prog.globalNamed "math/bits.deBruijn64tab" = some 1 := by kernel_rfl
  unfold Lib.TabIs World.var? at h h'
  rw [hg] at h
  rw [hg'] at h'
  simp only [Option.bind_some] at h h'
  intro g v e
  have e : glob g = some v := e
  unfold glob at e
  split at e
  · cases e
    split at h
    · rename_i cs' t fz hh
      simp only [Option.some.injEq] at h
      subst h
      refine ⟨(tab32.map fun z => Value.int .u8 z).toArray, t, fz, tab32.map fun z => Value.int .u8 z, hh, fun ι' => ground_ok ι' _ _ (by kernel_rfl), ?_⟩
      intro j v hj
      simpa using hj
    · cases h
  · cases e
    split at h'
    · rename_i cs' t fz hh
      simp only [Option.some.injEq] at h'
      subst h'
      refine ⟨(tab64.map fun z => Value.int .u8 z).toArray, t, fz, tab64.map fun z => Value.int .u8 z, hh, fun ι' => ground_ok ι' _ _ (by kernel_rfl), ?_⟩
      intro j v hj
      simpa using hj
    · cases h'
  · cases e
end Go.Eng.RZ
end
section
/- What decode's own functions are, in closed form. -/
namespace Go.Eng.RZ
open Go.Eng
noncomputable section
abbrev Dreader : Type := ((List Int) × (Bool × (Int × (Bool × (Int × (Int × Int))))))
def fnk113 (x : Int × Int) : Int := imul .i64 (iconv .i64 (iand .u8 (ishr .u8 x.2 x.1) 1)) 8
def fnk114 (x : Int × Int) : DO := (2, (0, ((imax x.1 (-1)), ((-1), (1, (x.2, (false, 0)))))))
def treek93 (x : DO) : Tr Bool := .ite ((ieq x.1 1) == true) (.ite ((ile 4 x.2.1) == true) (.ret (ilt x.2.1 8)) (.ret false)) (.ret false)
def fnk93 (x : DO) : Bool := (treek93 x).val
def accL (d : List Int) : Nat → Nat → Int → Int
  | 0, _, v => v
  | n + 1, i, v => accL d n (i + 1) (ior .u64 v (ishl .u64 (iconv .u64 (rdc (.int .u8) d i)) ((8 * i : Nat) : Int)))
def numL (d : List Int) : Int := accL d d.length 0 0
def fnk94 (d : List Int) : Int := numL d
theorem fnk94_ok {d : List Int} (_ : d.length ≤ 8) : fnk94 d = numL d := rfl
def fnk116 (x : Int) : Int := imin (imax x 1) 8
def fnk95 (x : Int × Int) : Int := iconv .u64 (ishr .i64 (iconv .i64 (ishl .u64 x.1 (isub .i64 64 (imul .i64 8 (fnk116 x.2))))) (isub .i64 64 (imul .i64 8 (fnk116 x.2))))
def fnk89 (x : Int) : Bool := ieq (ishr .u8 x 4) 4
abbrev D4 : Type := (DO × (DO × (DO × DO)))
def zO4 : DO := (0, (0, (0, (0, (0, (0, (false, 0)))))))
def fnk194 (_ : D4) : DO × DO := (zO4, zO4)
def fnk195 (x : D4) : DO × DO := (x.2.1, x.1)
def fnk196 (x : D4) : DO × DO := (x.1, x.2.1)
def fnk197 (x : D4) : DO × DO := (x.2.1, zO4)
def fnk198 (x : D4) : DO × DO := (x.2.1, x.2.2.2)
def fnk199 (x : D4) : DO × DO := (x.2.1, (1, (1, ((-1), ((-1), (0, (0, (false, 0))))))))
def fnk200 (x : D4) : DO × DO := (x.2.2.1, zO4)
def fnk201 (x : D4) : DO × DO := x.2.2
def fnk202 (x : D4) : DO × DO := (zO4, x.2.2.2)
end
end Go.Eng.RZ
end
section
/- Functions of this program, written out. -/
namespace Go.Eng.RZ
open Go.Proofs Go.Eng
inductive J66 where
 | h0 (v1 : Int) (v2 : (List Int))
noncomputable def tree66 (_x : Int) : Tr (J66 ⊕ Int) :=
  .need ((0 : Nat) < 8) <|
  .need ((1 : Nat) < 8) <|
  .need ((2 : Nat) < 8) <|
  .need ((3 : Nat) < 8) <|
  .need ((4 : Nat) < 8) <|
  .need ((5 : Nat) < 8) <|
  .need ((6 : Nat) < 8) <|
  .need ((7 : Nat) < 8) <|
  .ret (.inl (.h0 0 [3, 4, 5, 6, 7, 8, 9, 10]))
noncomputable def step66 (x : Int) : J66 → Tr (J66 ⊕ Int)
 | .h0 v1 v2 =>
 .ite (ilt v1 8) (
 .need ((0 : Int) ≤ v1) <|
 .need ((v1 : Int) < 8) <|
 .need (((v1).toNat : Nat) < 8) <|
 .ite (ieq (rdc (.int .u8) v2 (v1).toNat) x) (
 .ret (.inr v1)) (
 .ret (.inl (.h0 (iadd .i64 v1 1) v2)))) (
 .ret (.inr (-1)))
noncomputable def head66 (x : Int) : J66 → Head
 | .h0 v1 v2 =>
 { fr := { id := 66, kind := .top, T := [(.int .u8 x), .any, .any, (.ptr 0 []), (.int .i64 v1)] ++ List.replicate 11 .any, items := [.lp (subc [1, 1, 0, 1, 0, 0] (bodyOf Tryz.f66)), .blk 0, .code (subc [1, 1, 1] (bodyOf Tryz.f66))], D := [], base := 0 },
   stk := [],
   H := [.cell true 122 (.arr 8 (.int .u8) v2)] }
noncomputable def stop66 : FuncId → Nat → Nat → Option Cut
  | 66, 0, 0 => some { tmps := [0, 3, 4], loops := [], dead := [], stk := [] }
  | _, _, _ => none
noncomputable def fn66 (x : Int) : Int := endVal (TC.dflt (.int .i64)) (step66 x) (tree66 x)
def pre66 (x : Int) : Prop := ∃ r, Ends (step66 x) r (tree66 x)
noncomputable def spec66 : Spec := { dom := (.st1 (.int .u8)), cod := (.int .i64), n := 1, pre := pre66, f := fn66 }
noncomputable def need66 : FuncId → Option Spec
  | _ => none
theorem need66_ok : ∀ f sp, need66 f = some sp → SpecOk env0 f sp := by
  intro f sp h
  unfold need66 at h
  split at h
  · cases h
section
variable (W : Cfg) (Q : Int → Prop) (x : Int)
theorem run66 : run (env need66 (fun _ _ => none)) stop66 (finS spec66 Q) W 100000 (startFr 66 Tryz.f66 (bodyOf Tryz.f66) (argsOf (.st1 (.int .u8)) x)) [] [] = (tree66 x).wp (kont W Q (head66 x)) := by kernel_rfl
theorem run66h0 (v1 : Int) (v2 : List Int) : run (env need66 (fun _ _ => none)) stop66 (finS spec66 Q) W 100000 (head66 x (.h0 v1 v2)).fr.enter (head66 x (.h0 v1 v2)).stk (head66 x (.h0 v1 v2)).H = (step66 x (.h0 v1 v2)).wp (kont W Q (head66 x)) := by kernel_rfl
end
theorem runs66 (W : Cfg) (Q : Int → Prop) (x : Int) : ∀ j : J66, run (env need66 (fun _ _ => none)) stop66 (finS spec66 Q) W 100000 (head66 x j).fr.enter (head66 x j).stk (head66 x j).H = (step66 x j).wp (kont W Q (head66 x))
 | .h0 v1 v2 => run66h0 W Q x v1 v2
theorem ok66 : SpecOk env0 66 spec66 := SpecOk.env rfl (fun _ _ h => h) (spec_of_trees (E := (env need66 (fun _ _ => none))) (sp := spec66) (valid _ _) (fun f sp h => SpecOk.env rfl (fun _ _ h => h) (need66_ok f sp h)) (fn := Tryz.f66) (c := (bodyOf Tryz.f66)) (by kernel_rfl) (by kernel_rfl) tree66 step66 head66 run66 runs66 (fun _ h => endVal_ends h))
noncomputable def tree67 (x : Int) : Tr Int :=
  .ite (ieq x 12) (
 .ret 0) (
 .ite (ieq x 19) (
 .ret 0) (
 .ite (ieq x 13) (
 .ret 1) (
 .ite (ieq x 20) (
 .ret 1) (
 .ite (ieq x 15) (
 .ret 2) (
 .ite (ieq x 14) (
 .ret 3) (
 .ite (ieq x 22) (
 .ret 4) (
 .ite (ieq x 16) (
 .ret 4) (
 .ite (ieq x 17) (
 .ret 5) (
 .ite (ieq x 23) (
 .ret 6) (
 .ite (ieq x 18) (
 .ret 7) (
 .ret (-1))))))))))))
noncomputable def fn67 (x : Int) : Int := (tree67 x).val
def pre67 (x : Int) : Prop := (tree67 x).ok
noncomputable def spec67 : Spec := { dom := (.st1 (.int .u8)), cod := (.int .i64), n := 1, pre := pre67, f := fn67 }
noncomputable def need67 : FuncId → Option Spec
  | _ => none
theorem need67_ok : ∀ f sp, need67 f = some sp → SpecOk env0 f sp := by
  intro f sp h
  unfold need67 at h
  split at h
  · cases h
section
variable (W : Cfg) (Q : Int → Prop) (x : Int)
theorem run67 : run (env need67 (fun _ _ => none)) (fun _ _ _ => none) (finS spec67 Q) W 100000 (startFr 67 Tryz.f67 (bodyOf Tryz.f67) (argsOf (.st1 (.int .u8)) x)) [] [] = (tree67 x).wp Q := by kernel_rfl
end
theorem ok67 : SpecOk env0 67 spec67 := SpecOk.env rfl (fun _ _ h => h) (spec_of_tree (E := (env need67 (fun _ _ => none))) (sp := spec67) (valid _ _) (fun f sp h => SpecOk.env rfl (fun _ _ h => h) (need67_ok f sp h)) (fn := Tryz.f67) (c := (bodyOf Tryz.f67)) (by kernel_rfl) (by kernel_rfl) tree67 run67 (fun _ h => Tr.gives_val h))
noncomputable def tree45 (x : Int) : Tr (List Drow) :=
  .need (pre66 x) <|
  .need (pre67 x) <|
  .ite (ieq x 1) (
 .need ((0 : Nat) < 1) <|
 .need ((0 : Nat) < 1) <|
 .need ((0 : Nat) < 1) <|
 .need ((0 : Nat) < 1) <|
 .need ((0 : Nat) < 1) <|
 .need ((0 : Nat) < 1) <|
 .need ((0 : Nat) < 1) <|
 .need (((0 : Nat) + 1 : Nat) ≤ 1) <|
 .need (((0 : Nat) + 1 : Nat) ≤ 1) <|
 .need (((0 : Nat) + 1 : Nat) ≤ 1) <|
 .need (((0 : Nat) + 1 : Nat) ≤ 1) <|
 .need (((0 : Nat) + 1 : Nat) ≤ 1) <|
 .need (((0 : Nat) + 1 : Nat) ≤ 1) <|
 .need (((0 : Nat) + 1 : Nat) ≤ 1) <|
 .need ((0 : Nat) < 7) <|
 .need ((1 : Nat) < 7) <|
 .need ((2 : Nat) < 7) <|
 .need ((3 : Nat) < 7) <|
 .need ((4 : Nat) < 7) <|
 .need ((5 : Nat) < 7) <|
 .need ((6 : Nat) < 7) <|
 .need (((0 : Nat) + 7 : Nat) ≤ 7) <|
 let y0 : (Int × Int) := (1, 0)
 let y1 : (Int × (Int × Int)) := ((-1), y0)
 let y2 : (Int × (Int × Int)) := ((-1), (2, 0))
 let y3 : (Int × Int) := (1, 1)
 let y4 : (Int × Int) := (1, 4)
 let y5 : (Int × (Int × Int)) := (0, y4)
 .ret [(1, ((ByteArray.mk #[114, 109]), ((ByteArray.mk #[114]), (0, ([136], y1))))), (1, ((ByteArray.mk #[114]), ((ByteArray.mk #[109]), (0, ([138], y2))))), (1, ((ByteArray.mk #[114, 109]), ((ByteArray.mk #[105, 56]), (0, ([198], (0, y3)))))), (4, ((ByteArray.mk #[114, 109]), ((ByteArray.mk #[114]), (0, ([137], y1))))), (4, ((ByteArray.mk #[114]), ((ByteArray.mk #[109]), (0, ([139], y2))))), (4, ((ByteArray.mk #[114, 109]), ((ByteArray.mk #[105, 51, 50]), (0, ([199], y5))))), (8, ((ByteArray.mk #[114]), ((ByteArray.mk #[105, 54, 52]), (0, ([184], (0, (3, 8)))))))]) (
 .ite (ieq x 2) (
 .need ((0 : Nat) < 1) <|
 .need (((0 : Nat) + 1 : Nat) ≤ 1) <|
 .need ((0 : Nat) < 1) <|
 .need (((0 : Nat) + 1 : Nat) ≤ 1) <|
 let y6 : (Int × (Int × Int)) := ((-1), (2, 0))
 .ret [(4, ((ByteArray.mk #[114]), ((ByteArray.mk #[109]), (0, ([141], y6)))))]) (
 .ite (ieq x 3) (
 .need ((0 : Nat) < 1) <|
 .need ((0 : Nat) < 1) <|
 .need ((0 : Nat) < 1) <|
 .need ((0 : Nat) < 1) <|
 .need (((0 : Nat) + 1 : Nat) ≤ 1) <|
 .need (((0 : Nat) + 1 : Nat) ≤ 1) <|
 .need (((0 : Nat) + 1 : Nat) ≤ 1) <|
 .need (((0 : Nat) + 1 : Nat) ≤ 1) <|
 .need ((0 : Nat) < 4) <|
 .need ((1 : Nat) < 4) <|
 .need ((2 : Nat) < 4) <|
 .need ((3 : Nat) < 4) <|
 .need (((0 : Nat) + 4 : Nat) ≤ 4) <|
 let y7 : Int := (iconv .u8 (imax (fn66 x) 0))
 let y8 : Int := (imul .u8 8 y7)
 let y9 : (Int × Int) := (1, 0)
 let y10 : (Int × (Int × Int)) := ((-1), y9)
 let y11 : (Int × (Int × Int)) := ((-1), (2, 0))
 let y12 : Int := (iconv .i64 y7)
 let y13 : (Int × Int) := (1, 1)
 let y14 : (Int × Int) := (1, 4)
 let y15 : (List Drow) := [(4, ((ByteArray.mk #[114, 109]), ((ByteArray.mk #[114]), (0, ([(iadd .u8 y8 1)], y10))))), (4, ((ByteArray.mk #[114]), ((ByteArray.mk #[109]), (0, ([(iadd .u8 y8 3)], y11))))), (4, ((ByteArray.mk #[114, 109]), ((ByteArray.mk #[105, 56]), (0, ([131], (y12, y13)))))), (4, ((ByteArray.mk #[114, 109]), ((ByteArray.mk #[105, 51, 50]), (0, ([129], (y12, y14))))))]
 .ret y15) (
 .ite (ieq x 4) (
 .need ((0 : Nat) < 1) <|
 .need ((0 : Nat) < 1) <|
 .need ((0 : Nat) < 1) <|
 .need ((0 : Nat) < 1) <|
 .need (((0 : Nat) + 1 : Nat) ≤ 1) <|
 .need (((0 : Nat) + 1 : Nat) ≤ 1) <|
 .need (((0 : Nat) + 1 : Nat) ≤ 1) <|
 .need (((0 : Nat) + 1 : Nat) ≤ 1) <|
 .need ((0 : Nat) < 4) <|
 .need ((1 : Nat) < 4) <|
 .need ((2 : Nat) < 4) <|
 .need ((3 : Nat) < 4) <|
 .need (((0 : Nat) + 4 : Nat) ≤ 4) <|
 let y16 : Int := (iconv .u8 (imax (fn66 x) 0))
 let y17 : Int := (imul .u8 8 y16)
 let y18 : (Int × Int) := (1, 0)
 let y19 : (Int × (Int × Int)) := ((-1), y18)
 let y20 : (Int × (Int × Int)) := ((-1), (2, 0))
 let y21 : Int := (iconv .i64 y16)
 let y22 : (Int × Int) := (1, 1)
 let y23 : (Int × Int) := (1, 4)
 let y24 : (List Drow) := [(4, ((ByteArray.mk #[114, 109]), ((ByteArray.mk #[114]), (0, ([(iadd .u8 y17 1)], y19))))), (4, ((ByteArray.mk #[114]), ((ByteArray.mk #[109]), (0, ([(iadd .u8 y17 3)], y20))))), (4, ((ByteArray.mk #[114, 109]), ((ByteArray.mk #[105, 56]), (0, ([131], (y21, y22)))))), (4, ((ByteArray.mk #[114, 109]), ((ByteArray.mk #[105, 51, 50]), (0, ([129], (y21, y23))))))]
 .ret y24) (
 .ite (ieq x 5) (
 .need ((0 : Nat) < 1) <|
 .need ((0 : Nat) < 1) <|
 .need ((0 : Nat) < 1) <|
 .need ((0 : Nat) < 1) <|
 .need (((0 : Nat) + 1 : Nat) ≤ 1) <|
 .need (((0 : Nat) + 1 : Nat) ≤ 1) <|
 .need (((0 : Nat) + 1 : Nat) ≤ 1) <|
 .need (((0 : Nat) + 1 : Nat) ≤ 1) <|
 .need ((0 : Nat) < 4) <|
 .need ((1 : Nat) < 4) <|
 .need ((2 : Nat) < 4) <|
 .need ((3 : Nat) < 4) <|
 .need (((0 : Nat) + 4 : Nat) ≤ 4) <|
 let y25 : Int := (iconv .u8 (imax (fn66 x) 0))
 let y26 : Int := (imul .u8 8 y25)
 let y27 : (Int × Int) := (1, 0)
 let y28 : (Int × (Int × Int)) := ((-1), y27)
 let y29 : (Int × (Int × Int)) := ((-1), (2, 0))
 let y30 : Int := (iconv .i64 y25)
 let y31 : (Int × Int) := (1, 1)
 let y32 : (Int × Int) := (1, 4)
 let y33 : (List Drow) := [(4, ((ByteArray.mk #[114, 109]), ((ByteArray.mk #[114]), (0, ([(iadd .u8 y26 1)], y28))))), (4, ((ByteArray.mk #[114]), ((ByteArray.mk #[109]), (0, ([(iadd .u8 y26 3)], y29))))), (4, ((ByteArray.mk #[114, 109]), ((ByteArray.mk #[105, 56]), (0, ([131], (y30, y31)))))), (4, ((ByteArray.mk #[114, 109]), ((ByteArray.mk #[105, 51, 50]), (0, ([129], (y30, y32))))))]
 .ret y33) (
 .ite (ieq x 6) (
 .need ((0 : Nat) < 1) <|
 .need ((0 : Nat) < 1) <|
 .need ((0 : Nat) < 1) <|
 .need ((0 : Nat) < 1) <|
 .need (((0 : Nat) + 1 : Nat) ≤ 1) <|
 .need (((0 : Nat) + 1 : Nat) ≤ 1) <|
 .need (((0 : Nat) + 1 : Nat) ≤ 1) <|
 .need (((0 : Nat) + 1 : Nat) ≤ 1) <|
 .need ((0 : Nat) < 4) <|
 .need ((1 : Nat) < 4) <|
 .need ((2 : Nat) < 4) <|
 .need ((3 : Nat) < 4) <|
 .need (((0 : Nat) + 4 : Nat) ≤ 4) <|
 let y34 : Int := (iconv .u8 (imax (fn66 x) 0))
 let y35 : Int := (imul .u8 8 y34)
 let y36 : (Int × Int) := (1, 0)
 let y37 : (Int × (Int × Int)) := ((-1), y36)
 let y38 : (Int × (Int × Int)) := ((-1), (2, 0))
 let y39 : Int := (iconv .i64 y34)
 let y40 : (Int × Int) := (1, 1)
 let y41 : (Int × Int) := (1, 4)
 let y42 : (List Drow) := [(4, ((ByteArray.mk #[114, 109]), ((ByteArray.mk #[114]), (0, ([(iadd .u8 y35 1)], y37))))), (4, ((ByteArray.mk #[114]), ((ByteArray.mk #[109]), (0, ([(iadd .u8 y35 3)], y38))))), (4, ((ByteArray.mk #[114, 109]), ((ByteArray.mk #[105, 56]), (0, ([131], (y39, y40)))))), (4, ((ByteArray.mk #[114, 109]), ((ByteArray.mk #[105, 51, 50]), (0, ([129], (y39, y41))))))]
 .ret y42) (
 .ite (ieq x 7) (
 .need ((0 : Nat) < 1) <|
 .need ((0 : Nat) < 1) <|
 .need ((0 : Nat) < 1) <|
 .need ((0 : Nat) < 1) <|
 .need (((0 : Nat) + 1 : Nat) ≤ 1) <|
 .need (((0 : Nat) + 1 : Nat) ≤ 1) <|
 .need (((0 : Nat) + 1 : Nat) ≤ 1) <|
 .need (((0 : Nat) + 1 : Nat) ≤ 1) <|
 .need ((0 : Nat) < 4) <|
 .need ((1 : Nat) < 4) <|
 .need ((2 : Nat) < 4) <|
 .need ((3 : Nat) < 4) <|
 .need (((0 : Nat) + 4 : Nat) ≤ 4) <|
 let y43 : Int := (iconv .u8 (imax (fn66 x) 0))
 let y44 : Int := (imul .u8 8 y43)
 let y45 : (Int × Int) := (1, 0)
 let y46 : (Int × (Int × Int)) := ((-1), y45)
 let y47 : (Int × (Int × Int)) := ((-1), (2, 0))
 let y48 : Int := (iconv .i64 y43)
 let y49 : (Int × Int) := (1, 1)
 let y50 : (Int × Int) := (1, 4)
 let y51 : (List Drow) := [(4, ((ByteArray.mk #[114, 109]), ((ByteArray.mk #[114]), (0, ([(iadd .u8 y44 1)], y46))))), (4, ((ByteArray.mk #[114]), ((ByteArray.mk #[109]), (0, ([(iadd .u8 y44 3)], y47))))), (4, ((ByteArray.mk #[114, 109]), ((ByteArray.mk #[105, 56]), (0, ([131], (y48, y49)))))), (4, ((ByteArray.mk #[114, 109]), ((ByteArray.mk #[105, 51, 50]), (0, ([129], (y48, y50))))))]
 .ret y51) (
 .ite (ieq x 8) (
 .need ((0 : Nat) < 1) <|
 .need ((0 : Nat) < 1) <|
 .need ((0 : Nat) < 1) <|
 .need ((0 : Nat) < 1) <|
 .need (((0 : Nat) + 1 : Nat) ≤ 1) <|
 .need (((0 : Nat) + 1 : Nat) ≤ 1) <|
 .need (((0 : Nat) + 1 : Nat) ≤ 1) <|
 .need (((0 : Nat) + 1 : Nat) ≤ 1) <|
 .need ((0 : Nat) < 4) <|
 .need ((1 : Nat) < 4) <|
 .need ((2 : Nat) < 4) <|
 .need ((3 : Nat) < 4) <|
 .need (((0 : Nat) + 4 : Nat) ≤ 4) <|
 let y52 : Int := (iconv .u8 (imax (fn66 x) 0))
 let y53 : Int := (imul .u8 8 y52)
 let y54 : (Int × Int) := (1, 0)
 let y55 : (Int × (Int × Int)) := ((-1), y54)
 let y56 : (Int × (Int × Int)) := ((-1), (2, 0))
 let y57 : Int := (iconv .i64 y52)
 let y58 : (Int × Int) := (1, 1)
 let y59 : (Int × Int) := (1, 4)
 let y60 : (List Drow) := [(4, ((ByteArray.mk #[114, 109]), ((ByteArray.mk #[114]), (0, ([(iadd .u8 y53 1)], y55))))), (4, ((ByteArray.mk #[114]), ((ByteArray.mk #[109]), (0, ([(iadd .u8 y53 3)], y56))))), (4, ((ByteArray.mk #[114, 109]), ((ByteArray.mk #[105, 56]), (0, ([131], (y57, y58)))))), (4, ((ByteArray.mk #[114, 109]), ((ByteArray.mk #[105, 51, 50]), (0, ([129], (y57, y59))))))]
 .ret y60) (
 .ite (ieq x 9) (
 .need ((0 : Nat) < 1) <|
 .need ((0 : Nat) < 1) <|
 .need ((0 : Nat) < 1) <|
 .need ((0 : Nat) < 1) <|
 .need (((0 : Nat) + 1 : Nat) ≤ 1) <|
 .need (((0 : Nat) + 1 : Nat) ≤ 1) <|
 .need (((0 : Nat) + 1 : Nat) ≤ 1) <|
 .need (((0 : Nat) + 1 : Nat) ≤ 1) <|
 .need ((0 : Nat) < 4) <|
 .need ((1 : Nat) < 4) <|
 .need ((2 : Nat) < 4) <|
 .need ((3 : Nat) < 4) <|
 .need (((0 : Nat) + 4 : Nat) ≤ 4) <|
 let y61 : Int := (iconv .u8 (imax (fn66 x) 0))
 let y62 : Int := (imul .u8 8 y61)
 let y63 : (Int × Int) := (1, 0)
 let y64 : (Int × (Int × Int)) := ((-1), y63)
 let y65 : (Int × (Int × Int)) := ((-1), (2, 0))
 let y66 : Int := (iconv .i64 y61)
 let y67 : (Int × Int) := (1, 1)
 let y68 : (Int × Int) := (1, 4)
 let y69 : (List Drow) := [(4, ((ByteArray.mk #[114, 109]), ((ByteArray.mk #[114]), (0, ([(iadd .u8 y62 1)], y64))))), (4, ((ByteArray.mk #[114]), ((ByteArray.mk #[109]), (0, ([(iadd .u8 y62 3)], y65))))), (4, ((ByteArray.mk #[114, 109]), ((ByteArray.mk #[105, 56]), (0, ([131], (y66, y67)))))), (4, ((ByteArray.mk #[114, 109]), ((ByteArray.mk #[105, 51, 50]), (0, ([129], (y66, y68))))))]
 .ret y69) (
 .ite (ieq x 10) (
 .need ((0 : Nat) < 1) <|
 .need ((0 : Nat) < 1) <|
 .need ((0 : Nat) < 1) <|
 .need ((0 : Nat) < 1) <|
 .need (((0 : Nat) + 1 : Nat) ≤ 1) <|
 .need (((0 : Nat) + 1 : Nat) ≤ 1) <|
 .need (((0 : Nat) + 1 : Nat) ≤ 1) <|
 .need (((0 : Nat) + 1 : Nat) ≤ 1) <|
 .need ((0 : Nat) < 4) <|
 .need ((1 : Nat) < 4) <|
 .need ((2 : Nat) < 4) <|
 .need ((3 : Nat) < 4) <|
 .need (((0 : Nat) + 4 : Nat) ≤ 4) <|
 let y70 : Int := (iconv .u8 (imax (fn66 x) 0))
 let y71 : Int := (imul .u8 8 y70)
 let y72 : (Int × Int) := (1, 0)
 let y73 : (Int × (Int × Int)) := ((-1), y72)
 let y74 : (Int × (Int × Int)) := ((-1), (2, 0))
 let y75 : Int := (iconv .i64 y70)
 let y76 : (Int × Int) := (1, 1)
 let y77 : (Int × Int) := (1, 4)
 let y78 : (List Drow) := [(4, ((ByteArray.mk #[114, 109]), ((ByteArray.mk #[114]), (0, ([(iadd .u8 y71 1)], y73))))), (4, ((ByteArray.mk #[114]), ((ByteArray.mk #[109]), (0, ([(iadd .u8 y71 3)], y74))))), (4, ((ByteArray.mk #[114, 109]), ((ByteArray.mk #[105, 56]), (0, ([131], (y75, y76)))))), (4, ((ByteArray.mk #[114, 109]), ((ByteArray.mk #[105, 51, 50]), (0, ([129], (y75, y77))))))]
 .ret y78) (
 .ite (ieq x 11) (
 .need ((0 : Nat) < 1) <|
 .need ((0 : Nat) < 1) <|
 .need (((0 : Nat) + 1 : Nat) ≤ 1) <|
 .need (((0 : Nat) + 1 : Nat) ≤ 1) <|
 .need ((0 : Nat) < 2) <|
 .need ((1 : Nat) < 2) <|
 .need (((0 : Nat) + 2 : Nat) ≤ 2) <|
 let y79 : (Int × Int) := (1, 0)
 let y80 : (Int × (Int × Int)) := ((-1), y79)
 let y81 : (Int × Int) := (1, 4)
 let y82 : (Int × (Int × Int)) := (0, y81)
 .ret [(4, ((ByteArray.mk #[114, 109]), ((ByteArray.mk #[114]), (0, ([133], y80))))), (4, ((ByteArray.mk #[114, 109]), ((ByteArray.mk #[105, 51, 50]), (0, ([247], y82)))))]) (
 .ite (ieq x 12) (
 .need ((0 : Nat) < 1) <|
 .need (((0 : Nat) + 1 : Nat) ≤ 1) <|
 .need ((0 : Nat) < 1) <|
 .need (((0 : Nat) + 1 : Nat) ≤ 1) <|
 let y83 : (Int × Int) := (1, 0)
 let y84 : (Int × (Int × Int)) := ((fn67 x), y83)
 let y85 : (List Drow) := [(4, ((ByteArray.mk #[114, 109]), ((ByteArray.mk #[45]), (0, ([255], y84)))))]
 .ret y85) (
 .ite (ieq x 13) (
 .need ((0 : Nat) < 1) <|
 .need (((0 : Nat) + 1 : Nat) ≤ 1) <|
 .need ((0 : Nat) < 1) <|
 .need (((0 : Nat) + 1 : Nat) ≤ 1) <|
 let y86 : (Int × Int) := (1, 0)
 let y87 : (Int × (Int × Int)) := ((fn67 x), y86)
 let y88 : (List Drow) := [(4, ((ByteArray.mk #[114, 109]), ((ByteArray.mk #[45]), (0, ([255], y87)))))]
 .ret y88) (
 .ite (ieq x 15) (
 .need ((0 : Nat) < 1) <|
 .need (((0 : Nat) + 1 : Nat) ≤ 1) <|
 .need ((0 : Nat) < 1) <|
 .need (((0 : Nat) + 1 : Nat) ≤ 1) <|
 let y89 : (Int × Int) := (1, 0)
 let y90 : (Int × (Int × Int)) := ((fn67 x), y89)
 let y91 : (List Drow) := [(4, ((ByteArray.mk #[114, 109]), ((ByteArray.mk #[45]), (0, ([247], y90)))))]
 .ret y91) (
 .ite (ieq x 14) (
 .need ((0 : Nat) < 1) <|
 .need (((0 : Nat) + 1 : Nat) ≤ 1) <|
 .need ((0 : Nat) < 1) <|
 .need (((0 : Nat) + 1 : Nat) ≤ 1) <|
 let y92 : (Int × Int) := (1, 0)
 let y93 : (Int × (Int × Int)) := ((fn67 x), y92)
 let y94 : (List Drow) := [(4, ((ByteArray.mk #[114, 109]), ((ByteArray.mk #[45]), (0, ([247], y93)))))]
 .ret y94) (
 .ite (ieq x 22) (
 .need ((0 : Nat) < 1) <|
 .need (((0 : Nat) + 1 : Nat) ≤ 1) <|
 .need ((0 : Nat) < 1) <|
 .need (((0 : Nat) + 1 : Nat) ≤ 1) <|
 let y95 : (Int × Int) := (1, 0)
 let y96 : (Int × (Int × Int)) := ((fn67 x), y95)
 let y97 : (List Drow) := [(4, ((ByteArray.mk #[114, 109]), ((ByteArray.mk #[45]), (0, ([247], y96)))))]
 .ret y97) (
 .ite (ieq x 23) (
 .need ((0 : Nat) < 1) <|
 .need (((0 : Nat) + 1 : Nat) ≤ 1) <|
 .need ((0 : Nat) < 1) <|
 .need (((0 : Nat) + 1 : Nat) ≤ 1) <|
 let y98 : (Int × Int) := (1, 0)
 let y99 : (Int × (Int × Int)) := ((fn67 x), y98)
 let y100 : (List Drow) := [(4, ((ByteArray.mk #[114, 109]), ((ByteArray.mk #[45]), (0, ([247], y99)))))]
 .ret y100) (
 .ite (ieq x 19) (
 .need ((0 : Nat) < 1) <|
 .need ((0 : Nat) < 1) <|
 .need (((0 : Nat) + 1 : Nat) ≤ 1) <|
 .need (((0 : Nat) + 1 : Nat) ≤ 1) <|
 .need ((0 : Nat) < 2) <|
 .need ((1 : Nat) < 2) <|
 .need (((0 : Nat) + 2 : Nat) ≤ 2) <|
 let y101 : (Int × Int) := (1, 1)
 let y102 : (Int × Int) := (1, 0)
 let y103 : (Int × (Int × Int)) := ((fn67 x), y102)
 let y104 : (List Drow) := [(4, ((ByteArray.mk #[114, 109]), ((ByteArray.mk #[117, 56]), (0, ([193], ((fn67 x), y101)))))), (4, ((ByteArray.mk #[114, 109]), ((ByteArray.mk #[99, 108]), (0, ([211], y103)))))]
 .ret y104) (
 .ite (ieq x 20) (
 .need ((0 : Nat) < 1) <|
 .need ((0 : Nat) < 1) <|
 .need (((0 : Nat) + 1 : Nat) ≤ 1) <|
 .need (((0 : Nat) + 1 : Nat) ≤ 1) <|
 .need ((0 : Nat) < 2) <|
 .need ((1 : Nat) < 2) <|
 .need (((0 : Nat) + 2 : Nat) ≤ 2) <|
 let y105 : (Int × Int) := (1, 1)
 let y106 : (Int × Int) := (1, 0)
 let y107 : (Int × (Int × Int)) := ((fn67 x), y106)
 let y108 : (List Drow) := [(4, ((ByteArray.mk #[114, 109]), ((ByteArray.mk #[117, 56]), (0, ([193], ((fn67 x), y105)))))), (4, ((ByteArray.mk #[114, 109]), ((ByteArray.mk #[99, 108]), (0, ([211], y107)))))]
 .ret y108) (
 .ite (ieq x 16) (
 .need ((0 : Nat) < 1) <|
 .need ((0 : Nat) < 1) <|
 .need (((0 : Nat) + 1 : Nat) ≤ 1) <|
 .need (((0 : Nat) + 1 : Nat) ≤ 1) <|
 .need ((0 : Nat) < 2) <|
 .need ((1 : Nat) < 2) <|
 .need (((0 : Nat) + 2 : Nat) ≤ 2) <|
 let y109 : (Int × Int) := (1, 1)
 let y110 : (Int × Int) := (1, 0)
 let y111 : (Int × (Int × Int)) := ((fn67 x), y110)
 let y112 : (List Drow) := [(4, ((ByteArray.mk #[114, 109]), ((ByteArray.mk #[117, 56]), (0, ([193], ((fn67 x), y109)))))), (4, ((ByteArray.mk #[114, 109]), ((ByteArray.mk #[99, 108]), (0, ([211], y111)))))]
 .ret y112) (
 .ite (ieq x 17) (
 .need ((0 : Nat) < 1) <|
 .need ((0 : Nat) < 1) <|
 .need (((0 : Nat) + 1 : Nat) ≤ 1) <|
 .need (((0 : Nat) + 1 : Nat) ≤ 1) <|
 .need ((0 : Nat) < 2) <|
 .need ((1 : Nat) < 2) <|
 .need (((0 : Nat) + 2 : Nat) ≤ 2) <|
 let y113 : (Int × Int) := (1, 1)
 let y114 : (Int × Int) := (1, 0)
 let y115 : (Int × (Int × Int)) := ((fn67 x), y114)
 let y116 : (List Drow) := [(4, ((ByteArray.mk #[114, 109]), ((ByteArray.mk #[117, 56]), (0, ([193], ((fn67 x), y113)))))), (4, ((ByteArray.mk #[114, 109]), ((ByteArray.mk #[99, 108]), (0, ([211], y115)))))]
 .ret y116) (
 .ite (ieq x 18) (
 .need ((0 : Nat) < 1) <|
 .need ((0 : Nat) < 1) <|
 .need (((0 : Nat) + 1 : Nat) ≤ 1) <|
 .need (((0 : Nat) + 1 : Nat) ≤ 1) <|
 .need ((0 : Nat) < 2) <|
 .need ((1 : Nat) < 2) <|
 .need (((0 : Nat) + 2 : Nat) ≤ 2) <|
 let y117 : (Int × Int) := (1, 1)
 let y118 : (Int × Int) := (1, 0)
 let y119 : (Int × (Int × Int)) := ((fn67 x), y118)
 let y120 : (List Drow) := [(4, ((ByteArray.mk #[114, 109]), ((ByteArray.mk #[117, 56]), (0, ([193], ((fn67 x), y117)))))), (4, ((ByteArray.mk #[114, 109]), ((ByteArray.mk #[99, 108]), (0, ([211], y119)))))]
 .ret y120) (
 .ite (ieq x 21) (
 .need ((0 : Nat) < 2) <|
 .need ((1 : Nat) < 2) <|
 .need (((0 : Nat) + 2 : Nat) ≤ 2) <|
 .need ((0 : Nat) < 1) <|
 .need (((0 : Nat) + 1 : Nat) ≤ 1) <|
 let y121 : (Int × (Int × Int)) := ((-1), (2, 0))
 .ret [(4, ((ByteArray.mk #[114]), ((ByteArray.mk #[114, 109]), (0, ([15, 175], y121)))))]) (
 .ret ([] : List Drow))))))))))))))))))))))))
noncomputable def fn45 (x : Int) : (List Drow) := (tree45 x).val
def pre45 (x : Int) : Prop := (tree45 x).ok
noncomputable def spec45 : Spec := { dom := (.st1 (.int .u8)), cod := (.slice Crow), n := 1, pre := pre45, f := fn45 }
noncomputable def need45 : FuncId → Option Spec
  | 66 => some spec66
  | 67 => some spec67
  | _ => none
theorem need45_ok : ∀ f sp, need45 f = some sp → SpecOk env0 f sp := by
  intro f sp h
  unfold need45 at h
  split at h
  · cases h; exact ok66
  · cases h; exact ok67
  · cases h
section
variable (W : Cfg) (Q : (List Drow) → Prop) (x : Int)
theorem run45 : run (env need45 (fun _ _ => none)) (fun _ _ _ => none) (finS spec45 Q) W 100000 (startFr 45 Tryz.f45 (bodyOf Tryz.f45) (argsOf (.st1 (.int .u8)) x)) [] [] = (tree45 x).wp Q := by kernel_rfl
end
theorem ok45 : SpecOk env0 45 spec45 := SpecOk.env rfl (fun _ _ h => h) (spec_of_tree (E := (env need45 (fun _ _ => none))) (sp := spec45) (valid _ _) (fun f sp h => SpecOk.env rfl (fun _ _ h => h) (need45_ok f sp h)) (fn := Tryz.f45) (c := (bodyOf Tryz.f45)) (by kernel_rfl) (by kernel_rfl) tree45 run45 (fun _ h => Tr.gives_val h))
noncomputable def tree26 (x : (Int × Int)) : Tr (List Drow) :=
  .need ((16 : Int) ≠ 0) <|
  .ite (ieq x.1 24) (
 .need ((0 : Nat) < 1) <|
 .need (((0 : Nat) + 1 : Nat) ≤ 1) <|
 .need ((0 : Nat) < 1) <|
 .need (((0 : Nat) + 1 : Nat) ≤ 1) <|
 let y0 : (Int × (Int × Int)) := (0, (3, 0))
 .ret [(16, ((ByteArray.mk #[114]), ((ByteArray.mk #[45]), (0, ([80], y0)))))]) (
 .ite (ieq x.1 25) (
 .need ((0 : Nat) < 1) <|
 .need (((0 : Nat) + 1 : Nat) ≤ 1) <|
 .need ((0 : Nat) < 1) <|
 .need (((0 : Nat) + 1 : Nat) ≤ 1) <|
 let y1 : (Int × (Int × Int)) := (0, (3, 0))
 .ret [(16, ((ByteArray.mk #[114]), ((ByteArray.mk #[45]), (0, ([88], y1)))))]) (
 .ite (ieq x.1 26) (
 .need ((0 : Nat) < 1) <|
 .need (((0 : Nat) + 1 : Nat) ≤ 1) <|
 .need ((0 : Nat) < 1) <|
 .need (((0 : Nat) + 1 : Nat) ≤ 1) <|
 let y2 : (Int × (Int × Int)) := (0, (0, 4))
 .ret [(16, ((ByteArray.mk #[45]), ((ByteArray.mk #[105, 51, 50]), (0, ([232], y2)))))]) (
 .ite (ieq x.1 28) (
 .need ((0 : Nat) < 1) <|
 .need ((0 : Nat) < 1) <|
 .need (((0 : Nat) + 1 : Nat) ≤ 1) <|
 .need (((0 : Nat) + 1 : Nat) ≤ 1) <|
 .need ((0 : Nat) < 2) <|
 .need ((1 : Nat) < 2) <|
 .need (((0 : Nat) + 2 : Nat) ≤ 2) <|
 let y3 : (Int × (Int × Int)) := (0, (0, 4))
 let y4 : (Int × Int) := (1, 0)
 .ret [(16, ((ByteArray.mk #[45]), ((ByteArray.mk #[105, 51, 50]), (0, ([233], y3))))), (16, ((ByteArray.mk #[114, 109]), ((ByteArray.mk #[45]), (0, ([255], (4, y4))))))]) (
 .ite (ieq x.1 29) (
 .need ((0 : Nat) < 2) <|
 .need ((1 : Nat) < 2) <|
 .need (((0 : Nat) + 2 : Nat) ≤ 2) <|
 .need ((0 : Nat) < 1) <|
 .need (((0 : Nat) + 1 : Nat) ≤ 1) <|
 let y5 : Int := (irem .u8 x.2 16)
 let y6 : (Int × (Int × Int)) := (0, (0, 4))
 .ret [(16, ((ByteArray.mk #[45]), ((ByteArray.mk #[105, 51, 50]), (0, ([15, (iadd .u8 128 y5)], y6)))))]) (
 .ite (ieq x.1 27) (
 .need ((0 : Nat) < 1) <|
 .need (((0 : Nat) + 1 : Nat) ≤ 1) <|
 .need ((0 : Nat) < 1) <|
 .need (((0 : Nat) + 1 : Nat) ≤ 1) <|
 let y7 : (Int × (Int × Int)) := (0, (0, 0))
 .ret [(16, ((ByteArray.mk #[45]), ((ByteArray.mk #[45]), (0, ([195], y7)))))]) (
 .ite (ieq x.1 34) (
 .need ((0 : Nat) < 1) <|
 .need (((0 : Nat) + 1 : Nat) ≤ 1) <|
 .need ((0 : Nat) < 1) <|
 .need (((0 : Nat) + 1 : Nat) ≤ 1) <|
 let y8 : (Int × (Int × Int)) := (0, (0, 0))
 .ret [(16, ((ByteArray.mk #[45]), ((ByteArray.mk #[45]), (0, ([144], y8)))))]) (
 .ite (ieq x.1 30) (
 .need ((0 : Nat) < 2) <|
 .need ((1 : Nat) < 2) <|
 .need (((0 : Nat) + 2 : Nat) ≤ 2) <|
 .need ((0 : Nat) < 1) <|
 .need (((0 : Nat) + 1 : Nat) ≤ 1) <|
 let y9 : Int := (irem .u8 x.2 16)
 let y10 : (Int × (Int × Int)) := ((-1), (2, 0))
 .ret [(4, ((ByteArray.mk #[114]), ((ByteArray.mk #[114, 109]), (0, ([15, (iadd .u8 64 y9)], y10)))))]) (
 .ite (ieq x.1 31) (
 .need ((0 : Nat) < 2) <|
 .need ((1 : Nat) < 2) <|
 .need (((0 : Nat) + 2 : Nat) ≤ 2) <|
 .need ((0 : Nat) < 1) <|
 .need (((0 : Nat) + 1 : Nat) ≤ 1) <|
 let y11 : Int := (irem .u8 x.2 16)
 let y12 : (Int × Int) := (1, 0)
 .ret [(1, ((ByteArray.mk #[114, 109]), ((ByteArray.mk #[45]), (0, ([15, (iadd .u8 144 y11)], (0, y12))))))]) (
 .ite (ieq x.1 32) (
 .need ((0 : Nat) < 2) <|
 .need ((1 : Nat) < 2) <|
 .need (((0 : Nat) + 2 : Nat) ≤ 2) <|
 .need ((0 : Nat) < 1) <|
 .need (((0 : Nat) + 1 : Nat) ≤ 1) <|
 let y13 : (Int × (Int × Int)) := ((-1), (2, 0))
 .ret [(4, ((ByteArray.mk #[114]), ((ByteArray.mk #[114, 109]), (0, ([15, 182], y13)))))]) (
 .ite (ieq x.1 33) (
 .need ((0 : Nat) < 2) <|
 .need ((1 : Nat) < 2) <|
 .need (((0 : Nat) + 2 : Nat) ≤ 2) <|
 .need ((0 : Nat) < 1) <|
 .need (((0 : Nat) + 1 : Nat) ≤ 1) <|
 let y14 : (Int × (Int × Int)) := ((-1), (2, 0))
 .ret [(4, ((ByteArray.mk #[114]), ((ByteArray.mk #[114, 109]), (0, ([15, 190], y14)))))]) (
 .ite (ieq x.1 35) (
 .need ((0 : Nat) < 2) <|
 .need ((1 : Nat) < 2) <|
 .need ((0 : Nat) < 2) <|
 .need ((1 : Nat) < 2) <|
 .need (((0 : Nat) + 2 : Nat) ≤ 2) <|
 .need (((0 : Nat) + 2 : Nat) ≤ 2) <|
 .need ((0 : Nat) < 2) <|
 .need ((1 : Nat) < 2) <|
 .need (((0 : Nat) + 2 : Nat) ≤ 2) <|
 let y15 : (Int × (Int × Int)) := ((-1), (2, 0))
 let y16 : (Int × Int) := (1, 0)
 .ret [(32, ((ByteArray.mk #[120]), ((ByteArray.mk #[120, 109]), (243, ([15, 111], y15))))), (32, ((ByteArray.mk #[109]), ((ByteArray.mk #[120]), (243, ([15, 127], ((-1), y16))))))]) (
 .ite (ieq x.1 36) (
 .need ((0 : Nat) < 2) <|
 .need ((1 : Nat) < 2) <|
 .need (((0 : Nat) + 2 : Nat) ≤ 2) <|
 .need ((0 : Nat) < 1) <|
 .need (((0 : Nat) + 1 : Nat) ≤ 1) <|
 let y17 : (Int × (Int × Int)) := ((-1), (2, 0))
 .ret [(32, ((ByteArray.mk #[120]), ((ByteArray.mk #[120, 109]), (102, ([15, 239], y17)))))]) (
 .ite (ieq x.1 37) (
 .need ((0 : Nat) < 3) <|
 .need ((1 : Nat) < 3) <|
 .need ((2 : Nat) < 3) <|
 .need (((0 : Nat) + 3 : Nat) ≤ 3) <|
 .need ((0 : Nat) < 1) <|
 .need (((0 : Nat) + 1 : Nat) ≤ 1) <|
 let y18 : (Int × (Int × Int)) := ((-1), (2, 0))
 .ret [(32, ((ByteArray.mk #[120]), ((ByteArray.mk #[120, 109]), (102, ([15, 56, 220], y18)))))]) (
 .ite (ieq x.1 38) (
 .need ((0 : Nat) < 3) <|
 .need ((1 : Nat) < 3) <|
 .need ((2 : Nat) < 3) <|
 .need (((0 : Nat) + 3 : Nat) ≤ 3) <|
 .need ((0 : Nat) < 1) <|
 .need (((0 : Nat) + 1 : Nat) ≤ 1) <|
 let y19 : (Int × (Int × Int)) := ((-1), (2, 0))
 .ret [(32, ((ByteArray.mk #[120]), ((ByteArray.mk #[120, 109]), (102, ([15, 56, 221], y19)))))]) (
 .ite (ieq x.1 39) (
 .need ((0 : Nat) < 3) <|
 .need ((1 : Nat) < 3) <|
 .need ((2 : Nat) < 3) <|
 .need (((0 : Nat) + 3 : Nat) ≤ 3) <|
 .need ((0 : Nat) < 1) <|
 .need (((0 : Nat) + 1 : Nat) ≤ 1) <|
 .ret [(32, ((ByteArray.mk #[120]), ((ByteArray.mk #[120, 109]), (102, ([15, 58, 68], ((-1), (2, 1)))))))]) (
 .need (pre45 x.1) <|
 .ret (fn45 x.1)))))))))))))))))
noncomputable def fn26 (x : (Int × Int)) : (List Drow) := (tree26 x).val
def pre26 (x : (Int × Int)) : Prop := (tree26 x).ok
noncomputable def spec26 : Spec := { dom := (.st (.int .u8) (.st1 (.int .u8))), cod := (.slice Crow), n := 1, pre := pre26, f := fn26 }
noncomputable def need26 : FuncId → Option Spec
  | 45 => some spec45
  | _ => none
theorem need26_ok : ∀ f sp, need26 f = some sp → SpecOk env0 f sp := by
  intro f sp h
  unfold need26 at h
  split at h
  · cases h; exact ok45
  · cases h
section
variable (W : Cfg) (Q : (List Drow) → Prop) (x : (Int × Int))
theorem run26 : run (env need26 (fun _ _ => none)) (fun _ _ _ => none) (finS spec26 Q) W 100000 (startFr 26 Tryz.f26 (bodyOf Tryz.f26) (argsOf (.st (.int .u8) (.st1 (.int .u8))) x)) [] [] = (tree26 x).wp Q := by kernel_rfl
end
theorem ok26 : SpecOk env0 26 spec26 := SpecOk.env rfl (fun _ _ h => h) (spec_of_tree (E := (env need26 (fun _ _ => none))) (sp := spec26) (valid _ _) (fun f sp h => SpecOk.env rfl (fun _ _ h => h) (need26_ok f sp h)) (fn := Tryz.f26) (c := (bodyOf Tryz.f26)) (by kernel_rfl) (by kernel_rfl) tree26 run26 (fun _ h => Tr.gives_val h))
noncomputable def tree27 (x : (Int × Int)) : Tr Bool :=
  .ite (ieq x.2 4) (
 .ite ((ieq x.1 4) == false) (
 let y0 := (ieq x.1 8)
 .ret y0) (
 .ret true)) (
 .ite (ieq x.2 16) (
 let y1 := (ieq x.1 8)
 .ret y1) (
 .ite (ieq x.2 32) (
 .ret (ieq x.1 16)) (
 .ret (ieq x.1 x.2))))
noncomputable def fn27 (x : (Int × Int)) : Bool := (tree27 x).val
def pre27 (x : (Int × Int)) : Prop := (tree27 x).ok
noncomputable def spec27 : Spec := { dom := (.st (.int .i64) (.st1 (.int .i64))), cod := .bool, n := 1, pre := pre27, f := fn27 }
noncomputable def need27 : FuncId → Option Spec
  | _ => none
theorem need27_ok : ∀ f sp, need27 f = some sp → SpecOk env0 f sp := by
  intro f sp h
  unfold need27 at h
  split at h
  · cases h
section
variable (W : Cfg) (Q : Bool → Prop) (x : (Int × Int))
theorem run27 : run (env need27 (fun _ _ => none)) (fun _ _ _ => none) (finS spec27 Q) W 100000 (startFr 27 Tryz.f27 (bodyOf Tryz.f27) (argsOf (.st (.int .i64) (.st1 (.int .i64))) x)) [] [] = (tree27 x).wp Q := by kernel_rfl
end
theorem ok27 : SpecOk env0 27 spec27 := SpecOk.env rfl (fun _ _ h => h) (spec_of_tree (E := (env need27 (fun _ _ => none))) (sp := spec27) (valid _ _) (fun f sp h => SpecOk.env rfl (fun _ _ h => h) (need27_ok f sp h)) (fn := Tryz.f27) (c := (bodyOf Tryz.f27)) (by kernel_rfl) (by kernel_rfl) tree27 run27 (fun _ h => Tr.gives_val h))
noncomputable def tree9 (x : Int) : Tr DO :=
  .ret (1, (x, ((-1), ((-1), (0, (0, (false, 0)))))))
noncomputable def fn9 (x : Int) : DO := (tree9 x).val
def pre9 (x : Int) : Prop := (tree9 x).ok
noncomputable def spec9 : Spec := { dom := (.st1 (.int .i64)), cod := CO, n := 1, pre := pre9, f := fn9 }
noncomputable def need9 : FuncId → Option Spec
  | _ => none
theorem need9_ok : ∀ f sp, need9 f = some sp → SpecOk env0 f sp := by
  intro f sp h
  unfold need9 at h
  split at h
  · cases h
section
variable (W : Cfg) (Q : DO → Prop) (x : Int)
theorem run9 : run (env need9 (fun _ _ => none)) (fun _ _ _ => none) (finS spec9 Q) W 100000 (startFr 9 Tryz.f9 (bodyOf Tryz.f9) (argsOf (.st1 (.int .i64)) x)) [] [] = (tree9 x).wp Q := by kernel_rfl
end
theorem ok9 : SpecOk env0 9 spec9 := SpecOk.env rfl (fun _ _ h => h) (spec_of_tree (E := (env need9 (fun _ _ => none))) (sp := spec9) (valid _ _) (fun f sp h => SpecOk.env rfl (fun _ _ h => h) (need9_ok f sp h)) (fn := Tryz.f9) (c := (bodyOf Tryz.f9)) (by kernel_rfl) (by kernel_rfl) tree9 run9 (fun _ h => Tr.gives_val h))
noncomputable def tree46 (x : DO) : Tr Bool :=
  .ite (ieq x.1 1) (
 let y0 := x.2.1
 .need (pre9 y0) <|
 .ite ((eqD CO x (fn9 y0)) == true) (
 .ite ((ile 0 y0) == true) (
 .ret (ilt y0 16)) (
 .ret false)) (
 .ret false)) (
 .ite ((ine x.1 2) == false) (
 let y1 := x.2.1
 .ite ((ine y1 0) == false) (
 let y2 := x.2.2
 let y3 := y2.2
 let y4 := y3.2
 let y5 := y4.2
 let y6 := y5.2
 .ite ((ine y6.2 0) == false) (
 let y7 := y5.1
 .ite ((ilt y7 (-2147483648)) == false) (
 .ite (ile 2147483648 y7) (
 .ret false) (
 .ite y6.1 (
 let y8 := y2.1
 .ite ((ieq y8 (-1)) == true) (
 let y9 := y3.1
 .ite ((ieq y9 (-1)) == true) (
 let y10 := y4.1
 let y11 := (ieq y10 1)
 .ret y11) (
 .ret false)) (
 .ret false)) (
 let y12 := y2.1
 .ite ((ilt y12 (-1)) == false) (
 .ite ((ilt 15 y12) == false) (
 let y13 := y3.1
 .ite ((ilt y13 (-1)) == false) (
 .ite ((ilt 15 y13) == false) (
 .ite (ieq y13 4) (
 .ret false) (
 .ite (ilt y13 0) (
 let y14 := y4.1
 let y15 := (ieq y14 1)
 .ret y15) (
 let y16 := y4.1
 let y17 := (ieq y16 1)
 .ite (y17 == false) (
 .ite ((ieq y16 2) == false) (
 .ite ((ieq y16 4) == false) (
 .ret (ieq y16 8)) (
 .ret true)) (
 .ret true)) (
 .ret true)))) (
 .ret false)) (
 .ret false)) (
 .ret false)) (
 .ret false)))) (
 .ret false)) (
 .ret false)) (
 .ret false)) (
 .ret false))
noncomputable def fn46 (x : DO) : Bool := (tree46 x).val
def pre46 (x : DO) : Prop := (tree46 x).ok
noncomputable def spec46 : Spec := { dom := (.st1 CO), cod := .bool, n := 1, pre := pre46, f := fn46 }
noncomputable def need46 : FuncId → Option Spec
  | 9 => some spec9
  | _ => none
theorem need46_ok : ∀ f sp, need46 f = some sp → SpecOk env0 f sp := by
  intro f sp h
  unfold need46 at h
  split at h
  · cases h; exact ok9
  · cases h
section
variable (W : Cfg) (Q : Bool → Prop) (x : DO)
theorem run46 : run (env need46 (fun _ _ => none)) (fun _ _ _ => none) (finS spec46 Q) W 100000 (startFr 46 Tryz.f46 (bodyOf Tryz.f46) (argsOf (.st1 CO) x)) [] [] = (tree46 x).wp Q := by kernel_rfl
end
theorem ok46 : SpecOk env0 46 spec46 := SpecOk.env rfl (fun _ _ h => h) (spec_of_tree (E := (env need46 (fun _ _ => none))) (sp := spec46) (valid _ _) (fun f sp h => SpecOk.env rfl (fun _ _ h => h) (need46_ok f sp h)) (fn := Tryz.f46) (c := (bodyOf Tryz.f46)) (by kernel_rfl) (by kernel_rfl) tree46 run46 (fun _ h => Tr.gives_val h))
noncomputable def tree47 (x : Int) : Tr DO :=
  .ret (3, (0, ((-1), ((-1), (0, (0, (false, x)))))))
noncomputable def fn47 (x : Int) : DO := (tree47 x).val
def pre47 (x : Int) : Prop := (tree47 x).ok
noncomputable def spec47 : Spec := { dom := (.st1 (.int .i64)), cod := CO, n := 1, pre := pre47, f := fn47 }
noncomputable def need47 : FuncId → Option Spec
  | _ => none
theorem need47_ok : ∀ f sp, need47 f = some sp → SpecOk env0 f sp := by
  intro f sp h
  unfold need47 at h
  split at h
  · cases h
section
variable (W : Cfg) (Q : DO → Prop) (x : Int)
theorem run47 : run (env need47 (fun _ _ => none)) (fun _ _ _ => none) (finS spec47 Q) W 100000 (startFr 47 Tryz.f47 (bodyOf Tryz.f47) (argsOf (.st1 (.int .i64)) x)) [] [] = (tree47 x).wp Q := by kernel_rfl
end
theorem ok47 : SpecOk env0 47 spec47 := SpecOk.env rfl (fun _ _ h => h) (spec_of_tree (E := (env need47 (fun _ _ => none))) (sp := spec47) (valid _ _) (fun f sp h => SpecOk.env rfl (fun _ _ h => h) (need47_ok f sp h)) (fn := Tryz.f47) (c := (bodyOf Tryz.f47)) (by kernel_rfl) (by kernel_rfl) tree47 run47 (fun _ h => Tr.gives_val h))
noncomputable def tree48 (x : Int) : Tr DO :=
  .need ((16 : Int) ≠ 0) <|
  .need ((16 : Int) ≠ 0) <|
  .ret (1, ((iadd .i64 (irem .i64 (iadd .i64 (irem .i64 x 16) 16) 16) 16), ((-1), ((-1), (0, (0, (false, 0)))))))
noncomputable def fn48 (x : Int) : DO := (tree48 x).val
def pre48 (x : Int) : Prop := (tree48 x).ok
noncomputable def spec48 : Spec := { dom := (.st1 (.int .i64)), cod := CO, n := 1, pre := pre48, f := fn48 }
noncomputable def need48 : FuncId → Option Spec
  | _ => none
theorem need48_ok : ∀ f sp, need48 f = some sp → SpecOk env0 f sp := by
  intro f sp h
  unfold need48 at h
  split at h
  · cases h
section
variable (W : Cfg) (Q : DO → Prop) (x : Int)
theorem run48 : run (env need48 (fun _ _ => none)) (fun _ _ _ => none) (finS spec48 Q) W 100000 (startFr 48 Tryz.f48 (bodyOf Tryz.f48) (argsOf (.st1 (.int .i64)) x)) [] [] = (tree48 x).wp Q := by kernel_rfl
end
theorem ok48 : SpecOk env0 48 spec48 := SpecOk.env rfl (fun _ _ h => h) (spec_of_tree (E := (env need48 (fun _ _ => none))) (sp := spec48) (valid _ _) (fun f sp h => SpecOk.env rfl (fun _ _ h => h) (need48_ok f sp h)) (fn := Tryz.f48) (c := (bodyOf Tryz.f48)) (by kernel_rfl) (by kernel_rfl) tree48 run48 (fun _ h => Tr.gives_val h))
end Go.Eng.RZ
end
section
/- Functions of this program, written out. -/
namespace Go.Eng.RZ
open Go.Proofs Go.Eng
inductive J28 where
 | h0
noncomputable def tree28 (x : (DO × ByteArray)) : Tr (J28 ⊕ Bool) :=
  let y0 : Int := x.1.1
  let y1 : Bool := ((ieq y0 1) == true)
  .ite y1 (
 .need (pre46 x.1) <|
 let y2 := ((ieq y0 2) == true)
 .ite y2 (
 .need (pre46 x.1) <|
 let y3 := ((ieq y0 3) == true)
 .ite y3 (
 let y4 := x.1.2
 let y5 := y4.2.2.2.2.2.2
 .need (pre47 y5) <|
 .ite y1 (
 let y6 := y4.1
 let y7 := ((ile 16 y6) == true)
 .ite y7 (
 let y8 := ((ilt y6 32) == true)
 .ite y8 (
 .need (pre48 y6) <|
 let y9 := (x.2 == (ByteArray.mk #[114]))
 .ite y9 (
 let y10 := (fn46 x.1)
 .ret (.inr y10)) (
 let y11 := (x.2 == (ByteArray.mk #[109]))
 .ite y11 (
 let y12 := (fn46 x.1)
 .ret (.inr y12)) (
 let y13 := (x.2 == (ByteArray.mk #[114, 109]))
 .ite y13 (
 let y14 := (fn46 x.1)
 let y15 := (y14 == false)
 .ite y15 (
 .ret (.inr y14)) (
 .ret (.inr true))) (
 let y16 := (x.2 == (ByteArray.mk #[105, 56]))
 .ite y16 (
 let y17 := (eqD CO x.1 (fn47 y5))
 let y18 := (y17 == true)
 .ite y18 (
 let y19 := ((ile (-128) y5) == true)
 .ite y19 (
 let y20 := (ilt y5 128)
 .ret (.inr y20)) (
 .ret (.inr false))) (
 .ret (.inr false))) (
 let y21 := (x.2 == (ByteArray.mk #[117, 56]))
 .ite y21 (
 let y22 := (eqD CO x.1 (fn47 y5))
 let y23 := (y22 == true)
 .ite y23 (
 let y24 := ((ile 0 y5) == true)
 .ite y24 (
 let y25 := (ilt y5 256)
 .ret (.inr y25)) (
 .ret (.inr false))) (
 .ret (.inr false))) (
 let y26 := (x.2 == (ByteArray.mk #[105, 51, 50]))
 .ite y26 (
 let y27 := (eqD CO x.1 (fn47 y5))
 let y28 := (y27 == true)
 .ite y28 (
 let y29 := ((ile (-2147483648) y5) == true)
 .ite y29 (
 let y30 := (ilt y5 2147483648)
 .ret (.inr y30)) (
 .ret (.inr false))) (
 .ret (.inr false))) (
 let y31 := (x.2 == (ByteArray.mk #[105, 54, 52]))
 .ite y31 (
 let y32 := (eqD CO x.1 (fn47 y5))
 .ret (.inr y32)) (
 let y33 := (x.2 == (ByteArray.mk #[120]))
 .ite y33 (
 let y34 := (eqD CO x.1 (fn48 y6))
 .ret (.inr y34)) (
 let y35 := (x.2 == (ByteArray.mk #[120, 109]))
 .ite y35 (
 let y36 := (eqD CO x.1 (fn48 y6))
 let y37 := (y36 == false)
 .ite y37 (
 let y38 := (fn46 x.1)
 .ret (.inr y38)) (
 .ret (.inr true))) (
 let y39 := (x.2 == (ByteArray.mk #[99, 108]))
 .ite y39 (
 let y40 := (fn46 x.1)
 let y41 := (y40 == true)
 .ite y41 (
 let y42 := (ieq y6 1)
 .ret (.inr y42)) (
 .ret (.inr false))) (
 .ret (.inl (.h0))))))))))))) (
 let y43 := (x.2 == (ByteArray.mk #[114]))
 .ite y43 (
 let y44 := (fn46 x.1)
 .ret (.inr y44)) (
 let y45 := (x.2 == (ByteArray.mk #[109]))
 .ite y45 (
 let y46 := (fn46 x.1)
 .ret (.inr y46)) (
 let y47 := (x.2 == (ByteArray.mk #[114, 109]))
 .ite y47 (
 let y48 := (fn46 x.1)
 let y49 := (y48 == false)
 .ite y49 (
 .ret (.inr y48)) (
 .ret (.inr true))) (
 let y50 := (x.2 == (ByteArray.mk #[105, 56]))
 .ite y50 (
 let y51 := (eqD CO x.1 (fn47 y5))
 let y52 := (y51 == true)
 .ite y52 (
 let y53 := ((ile (-128) y5) == true)
 .ite y53 (
 let y54 := (ilt y5 128)
 .ret (.inr y54)) (
 .ret (.inr false))) (
 .ret (.inr false))) (
 let y55 := (x.2 == (ByteArray.mk #[117, 56]))
 .ite y55 (
 let y56 := (eqD CO x.1 (fn47 y5))
 let y57 := (y56 == true)
 .ite y57 (
 let y58 := ((ile 0 y5) == true)
 .ite y58 (
 let y59 := (ilt y5 256)
 .ret (.inr y59)) (
 .ret (.inr false))) (
 .ret (.inr false))) (
 let y60 := (x.2 == (ByteArray.mk #[105, 51, 50]))
 .ite y60 (
 let y61 := (eqD CO x.1 (fn47 y5))
 let y62 := (y61 == true)
 .ite y62 (
 let y63 := ((ile (-2147483648) y5) == true)
 .ite y63 (
 let y64 := (ilt y5 2147483648)
 .ret (.inr y64)) (
 .ret (.inr false))) (
 .ret (.inr false))) (
 let y65 := (x.2 == (ByteArray.mk #[105, 54, 52]))
 .ite y65 (
 let y66 := (eqD CO x.1 (fn47 y5))
 .ret (.inr y66)) (
 let y67 := (x.2 == (ByteArray.mk #[120]))
 .ite y67 (
 .ret (.inr false)) (
 let y68 := (x.2 == (ByteArray.mk #[120, 109]))
 .ite y68 (
 let y69 := (fn46 x.1)
 .ret (.inr y69)) (
 let y70 := (x.2 == (ByteArray.mk #[99, 108]))
 .ite y70 (
 let y71 := (fn46 x.1)
 let y72 := (y71 == true)
 .ite y72 (
 let y73 := (ieq y6 1)
 .ret (.inr y73)) (
 .ret (.inr false))) (
 .ret (.inl (.h0)))))))))))))) (
 let y74 := (x.2 == (ByteArray.mk #[114]))
 .ite y74 (
 let y75 := (fn46 x.1)
 .ret (.inr y75)) (
 let y76 := (x.2 == (ByteArray.mk #[109]))
 .ite y76 (
 let y77 := (fn46 x.1)
 .ret (.inr y77)) (
 let y78 := (x.2 == (ByteArray.mk #[114, 109]))
 .ite y78 (
 let y79 := (fn46 x.1)
 let y80 := (y79 == false)
 .ite y80 (
 .ret (.inr y79)) (
 .ret (.inr true))) (
 let y81 := (x.2 == (ByteArray.mk #[105, 56]))
 .ite y81 (
 let y82 := (eqD CO x.1 (fn47 y5))
 let y83 := (y82 == true)
 .ite y83 (
 let y84 := ((ile (-128) y5) == true)
 .ite y84 (
 let y85 := (ilt y5 128)
 .ret (.inr y85)) (
 .ret (.inr false))) (
 .ret (.inr false))) (
 let y86 := (x.2 == (ByteArray.mk #[117, 56]))
 .ite y86 (
 let y87 := (eqD CO x.1 (fn47 y5))
 let y88 := (y87 == true)
 .ite y88 (
 let y89 := ((ile 0 y5) == true)
 .ite y89 (
 let y90 := (ilt y5 256)
 .ret (.inr y90)) (
 .ret (.inr false))) (
 .ret (.inr false))) (
 let y91 := (x.2 == (ByteArray.mk #[105, 51, 50]))
 .ite y91 (
 let y92 := (eqD CO x.1 (fn47 y5))
 let y93 := (y92 == true)
 .ite y93 (
 let y94 := ((ile (-2147483648) y5) == true)
 .ite y94 (
 let y95 := (ilt y5 2147483648)
 .ret (.inr y95)) (
 .ret (.inr false))) (
 .ret (.inr false))) (
 let y96 := (x.2 == (ByteArray.mk #[105, 54, 52]))
 .ite y96 (
 let y97 := (eqD CO x.1 (fn47 y5))
 .ret (.inr y97)) (
 let y98 := (x.2 == (ByteArray.mk #[120]))
 .ite y98 (
 .ret (.inr false)) (
 let y99 := (x.2 == (ByteArray.mk #[120, 109]))
 .ite y99 (
 let y100 := (fn46 x.1)
 .ret (.inr y100)) (
 let y101 := (x.2 == (ByteArray.mk #[99, 108]))
 .ite y101 (
 let y102 := (fn46 x.1)
 let y103 := (y102 == true)
 .ite y103 (
 let y104 := (ieq y6 1)
 .ret (.inr y104)) (
 .ret (.inr false))) (
 .ret (.inl (.h0)))))))))))))) (
 let y105 := (x.2 == (ByteArray.mk #[114]))
 .ite y105 (
 let y106 := (fn46 x.1)
 .ret (.inr y106)) (
 let y107 := (x.2 == (ByteArray.mk #[109]))
 .ite y107 (
 let y108 := (fn46 x.1)
 .ret (.inr y108)) (
 let y109 := (x.2 == (ByteArray.mk #[114, 109]))
 .ite y109 (
 let y110 := (fn46 x.1)
 let y111 := (y110 == false)
 .ite y111 (
 .ret (.inr y110)) (
 .ret (.inr true))) (
 let y112 := (x.2 == (ByteArray.mk #[105, 56]))
 .ite y112 (
 let y113 := (eqD CO x.1 (fn47 y5))
 let y114 := (y113 == true)
 .ite y114 (
 let y115 := ((ile (-128) y5) == true)
 .ite y115 (
 let y116 := (ilt y5 128)
 .ret (.inr y116)) (
 .ret (.inr false))) (
 .ret (.inr false))) (
 let y117 := (x.2 == (ByteArray.mk #[117, 56]))
 .ite y117 (
 let y118 := (eqD CO x.1 (fn47 y5))
 let y119 := (y118 == true)
 .ite y119 (
 let y120 := ((ile 0 y5) == true)
 .ite y120 (
 let y121 := (ilt y5 256)
 .ret (.inr y121)) (
 .ret (.inr false))) (
 .ret (.inr false))) (
 let y122 := (x.2 == (ByteArray.mk #[105, 51, 50]))
 .ite y122 (
 let y123 := (eqD CO x.1 (fn47 y5))
 let y124 := (y123 == true)
 .ite y124 (
 let y125 := ((ile (-2147483648) y5) == true)
 .ite y125 (
 let y126 := (ilt y5 2147483648)
 .ret (.inr y126)) (
 .ret (.inr false))) (
 .ret (.inr false))) (
 let y127 := (x.2 == (ByteArray.mk #[105, 54, 52]))
 .ite y127 (
 let y128 := (eqD CO x.1 (fn47 y5))
 .ret (.inr y128)) (
 let y129 := (x.2 == (ByteArray.mk #[120]))
 .ite y129 (
 .ret (.inr false)) (
 let y130 := (x.2 == (ByteArray.mk #[120, 109]))
 .ite y130 (
 let y131 := (fn46 x.1)
 .ret (.inr y131)) (
 let y132 := (x.2 == (ByteArray.mk #[99, 108]))
 .ite y132 (
 let y133 := (fn46 x.1)
 let y134 := (y133 == true)
 .ite y134 (
 let y135 := y4.1
 let y136 := (ieq y135 1)
 .ret (.inr y136)) (
 .ret (.inr false))) (
 .ret (.inl (.h0)))))))))))))) (
 .ite y1 (
 let y137 := x.1.2
 let y138 := y137.1
 let y139 := ((ile 16 y138) == true)
 .ite y139 (
 let y140 := ((ilt y138 32) == true)
 .ite y140 (
 .need (pre48 y138) <|
 let y141 := (x.2 == (ByteArray.mk #[114]))
 .ite y141 (
 let y142 := (fn46 x.1)
 .ret (.inr y142)) (
 let y143 := (x.2 == (ByteArray.mk #[109]))
 .ite y143 (
 let y144 := (fn46 x.1)
 .ret (.inr y144)) (
 let y145 := (x.2 == (ByteArray.mk #[114, 109]))
 .ite y145 (
 let y146 := (fn46 x.1)
 let y147 := (y146 == false)
 .ite y147 (
 .ret (.inr y146)) (
 .ret (.inr true))) (
 let y148 := (x.2 == (ByteArray.mk #[105, 56]))
 .ite y148 (
 .ret (.inr false)) (
 let y149 := (x.2 == (ByteArray.mk #[117, 56]))
 .ite y149 (
 .ret (.inr false)) (
 let y150 := (x.2 == (ByteArray.mk #[105, 51, 50]))
 .ite y150 (
 .ret (.inr false)) (
 let y151 := (x.2 == (ByteArray.mk #[105, 54, 52]))
 .ite y151 (
 .ret (.inr false)) (
 let y152 := (x.2 == (ByteArray.mk #[120]))
 .ite y152 (
 let y153 := (eqD CO x.1 (fn48 y138))
 .ret (.inr y153)) (
 let y154 := (x.2 == (ByteArray.mk #[120, 109]))
 .ite y154 (
 let y155 := (eqD CO x.1 (fn48 y138))
 let y156 := (y155 == false)
 .ite y156 (
 let y157 := (fn46 x.1)
 .ret (.inr y157)) (
 .ret (.inr true))) (
 let y158 := (x.2 == (ByteArray.mk #[99, 108]))
 .ite y158 (
 let y159 := (fn46 x.1)
 let y160 := (y159 == true)
 .ite y160 (
 let y161 := (ieq y138 1)
 .ret (.inr y161)) (
 .ret (.inr false))) (
 .ret (.inl (.h0))))))))))))) (
 let y162 := (x.2 == (ByteArray.mk #[114]))
 .ite y162 (
 let y163 := (fn46 x.1)
 .ret (.inr y163)) (
 let y164 := (x.2 == (ByteArray.mk #[109]))
 .ite y164 (
 let y165 := (fn46 x.1)
 .ret (.inr y165)) (
 let y166 := (x.2 == (ByteArray.mk #[114, 109]))
 .ite y166 (
 let y167 := (fn46 x.1)
 let y168 := (y167 == false)
 .ite y168 (
 .ret (.inr y167)) (
 .ret (.inr true))) (
 let y169 := (x.2 == (ByteArray.mk #[105, 56]))
 .ite y169 (
 .ret (.inr false)) (
 let y170 := (x.2 == (ByteArray.mk #[117, 56]))
 .ite y170 (
 .ret (.inr false)) (
 let y171 := (x.2 == (ByteArray.mk #[105, 51, 50]))
 .ite y171 (
 .ret (.inr false)) (
 let y172 := (x.2 == (ByteArray.mk #[105, 54, 52]))
 .ite y172 (
 .ret (.inr false)) (
 let y173 := (x.2 == (ByteArray.mk #[120]))
 .ite y173 (
 .ret (.inr false)) (
 let y174 := (x.2 == (ByteArray.mk #[120, 109]))
 .ite y174 (
 let y175 := (fn46 x.1)
 .ret (.inr y175)) (
 let y176 := (x.2 == (ByteArray.mk #[99, 108]))
 .ite y176 (
 let y177 := (fn46 x.1)
 let y178 := (y177 == true)
 .ite y178 (
 let y179 := (ieq y138 1)
 .ret (.inr y179)) (
 .ret (.inr false))) (
 .ret (.inl (.h0)))))))))))))) (
 let y180 := (x.2 == (ByteArray.mk #[114]))
 .ite y180 (
 let y181 := (fn46 x.1)
 .ret (.inr y181)) (
 let y182 := (x.2 == (ByteArray.mk #[109]))
 .ite y182 (
 let y183 := (fn46 x.1)
 .ret (.inr y183)) (
 let y184 := (x.2 == (ByteArray.mk #[114, 109]))
 .ite y184 (
 let y185 := (fn46 x.1)
 let y186 := (y185 == false)
 .ite y186 (
 .ret (.inr y185)) (
 .ret (.inr true))) (
 let y187 := (x.2 == (ByteArray.mk #[105, 56]))
 .ite y187 (
 .ret (.inr false)) (
 let y188 := (x.2 == (ByteArray.mk #[117, 56]))
 .ite y188 (
 .ret (.inr false)) (
 let y189 := (x.2 == (ByteArray.mk #[105, 51, 50]))
 .ite y189 (
 .ret (.inr false)) (
 let y190 := (x.2 == (ByteArray.mk #[105, 54, 52]))
 .ite y190 (
 .ret (.inr false)) (
 let y191 := (x.2 == (ByteArray.mk #[120]))
 .ite y191 (
 .ret (.inr false)) (
 let y192 := (x.2 == (ByteArray.mk #[120, 109]))
 .ite y192 (
 let y193 := (fn46 x.1)
 .ret (.inr y193)) (
 let y194 := (x.2 == (ByteArray.mk #[99, 108]))
 .ite y194 (
 let y195 := (fn46 x.1)
 let y196 := (y195 == true)
 .ite y196 (
 let y197 := (ieq y138 1)
 .ret (.inr y197)) (
 .ret (.inr false))) (
 .ret (.inl (.h0)))))))))))))) (
 let y198 := (x.2 == (ByteArray.mk #[114]))
 .ite y198 (
 let y199 := (fn46 x.1)
 .ret (.inr y199)) (
 let y200 := (x.2 == (ByteArray.mk #[109]))
 .ite y200 (
 let y201 := (fn46 x.1)
 .ret (.inr y201)) (
 let y202 := (x.2 == (ByteArray.mk #[114, 109]))
 .ite y202 (
 let y203 := (fn46 x.1)
 let y204 := (y203 == false)
 .ite y204 (
 .ret (.inr y203)) (
 .ret (.inr true))) (
 let y205 := (x.2 == (ByteArray.mk #[105, 56]))
 .ite y205 (
 .ret (.inr false)) (
 let y206 := (x.2 == (ByteArray.mk #[117, 56]))
 .ite y206 (
 .ret (.inr false)) (
 let y207 := (x.2 == (ByteArray.mk #[105, 51, 50]))
 .ite y207 (
 .ret (.inr false)) (
 let y208 := (x.2 == (ByteArray.mk #[105, 54, 52]))
 .ite y208 (
 .ret (.inr false)) (
 let y209 := (x.2 == (ByteArray.mk #[120]))
 .ite y209 (
 .ret (.inr false)) (
 let y210 := (x.2 == (ByteArray.mk #[120, 109]))
 .ite y210 (
 let y211 := (fn46 x.1)
 .ret (.inr y211)) (
 let y212 := (x.2 == (ByteArray.mk #[99, 108]))
 .ite y212 (
 let y213 := (fn46 x.1)
 let y214 := (y213 == true)
 .ite y214 (
 let y215 := x.1.2
 let y216 := y215.1
 let y217 := (ieq y216 1)
 .ret (.inr y217)) (
 .ret (.inr false))) (
 .ret (.inl (.h0))))))))))))))) (
 let y218 := ((ieq y0 3) == true)
 .ite y218 (
 let y219 := x.1.2
 let y220 := y219.2.2.2.2.2.2
 .need (pre47 y220) <|
 .ite y1 (
 let y221 := y219.1
 let y222 := ((ile 16 y221) == true)
 .ite y222 (
 let y223 := ((ilt y221 32) == true)
 .ite y223 (
 .need (pre48 y221) <|
 let y224 := (x.2 == (ByteArray.mk #[114]))
 .ite y224 (
 let y225 := (fn46 x.1)
 .ret (.inr y225)) (
 let y226 := (x.2 == (ByteArray.mk #[109]))
 .ite y226 (
 .ret (.inr false)) (
 let y227 := (x.2 == (ByteArray.mk #[114, 109]))
 .ite y227 (
 let y228 := (fn46 x.1)
 let y229 := (y228 == false)
 .ite y229 (
 .ret (.inr false)) (
 .ret (.inr true))) (
 let y230 := (x.2 == (ByteArray.mk #[105, 56]))
 .ite y230 (
 let y231 := (eqD CO x.1 (fn47 y220))
 let y232 := (y231 == true)
 .ite y232 (
 let y233 := ((ile (-128) y220) == true)
 .ite y233 (
 let y234 := (ilt y220 128)
 .ret (.inr y234)) (
 .ret (.inr false))) (
 .ret (.inr false))) (
 let y235 := (x.2 == (ByteArray.mk #[117, 56]))
 .ite y235 (
 let y236 := (eqD CO x.1 (fn47 y220))
 let y237 := (y236 == true)
 .ite y237 (
 let y238 := ((ile 0 y220) == true)
 .ite y238 (
 let y239 := (ilt y220 256)
 .ret (.inr y239)) (
 .ret (.inr false))) (
 .ret (.inr false))) (
 let y240 := (x.2 == (ByteArray.mk #[105, 51, 50]))
 .ite y240 (
 let y241 := (eqD CO x.1 (fn47 y220))
 let y242 := (y241 == true)
 .ite y242 (
 let y243 := ((ile (-2147483648) y220) == true)
 .ite y243 (
 let y244 := (ilt y220 2147483648)
 .ret (.inr y244)) (
 .ret (.inr false))) (
 .ret (.inr false))) (
 let y245 := (x.2 == (ByteArray.mk #[105, 54, 52]))
 .ite y245 (
 let y246 := (eqD CO x.1 (fn47 y220))
 .ret (.inr y246)) (
 let y247 := (x.2 == (ByteArray.mk #[120]))
 .ite y247 (
 let y248 := (eqD CO x.1 (fn48 y221))
 .ret (.inr y248)) (
 let y249 := (x.2 == (ByteArray.mk #[120, 109]))
 .ite y249 (
 let y250 := (eqD CO x.1 (fn48 y221))
 let y251 := (y250 == false)
 .ite y251 (
 .ret (.inr false)) (
 .ret (.inr true))) (
 let y252 := (x.2 == (ByteArray.mk #[99, 108]))
 .ite y252 (
 let y253 := (fn46 x.1)
 let y254 := (y253 == true)
 .ite y254 (
 let y255 := (ieq y221 1)
 .ret (.inr y255)) (
 .ret (.inr false))) (
 .ret (.inl (.h0))))))))))))) (
 let y256 := (x.2 == (ByteArray.mk #[114]))
 .ite y256 (
 let y257 := (fn46 x.1)
 .ret (.inr y257)) (
 let y258 := (x.2 == (ByteArray.mk #[109]))
 .ite y258 (
 .ret (.inr false)) (
 let y259 := (x.2 == (ByteArray.mk #[114, 109]))
 .ite y259 (
 let y260 := (fn46 x.1)
 let y261 := (y260 == false)
 .ite y261 (
 .ret (.inr false)) (
 .ret (.inr true))) (
 let y262 := (x.2 == (ByteArray.mk #[105, 56]))
 .ite y262 (
 let y263 := (eqD CO x.1 (fn47 y220))
 let y264 := (y263 == true)
 .ite y264 (
 let y265 := ((ile (-128) y220) == true)
 .ite y265 (
 let y266 := (ilt y220 128)
 .ret (.inr y266)) (
 .ret (.inr false))) (
 .ret (.inr false))) (
 let y267 := (x.2 == (ByteArray.mk #[117, 56]))
 .ite y267 (
 let y268 := (eqD CO x.1 (fn47 y220))
 let y269 := (y268 == true)
 .ite y269 (
 let y270 := ((ile 0 y220) == true)
 .ite y270 (
 let y271 := (ilt y220 256)
 .ret (.inr y271)) (
 .ret (.inr false))) (
 .ret (.inr false))) (
 let y272 := (x.2 == (ByteArray.mk #[105, 51, 50]))
 .ite y272 (
 let y273 := (eqD CO x.1 (fn47 y220))
 let y274 := (y273 == true)
 .ite y274 (
 let y275 := ((ile (-2147483648) y220) == true)
 .ite y275 (
 let y276 := (ilt y220 2147483648)
 .ret (.inr y276)) (
 .ret (.inr false))) (
 .ret (.inr false))) (
 let y277 := (x.2 == (ByteArray.mk #[105, 54, 52]))
 .ite y277 (
 let y278 := (eqD CO x.1 (fn47 y220))
 .ret (.inr y278)) (
 let y279 := (x.2 == (ByteArray.mk #[120]))
 .ite y279 (
 .ret (.inr false)) (
 let y280 := (x.2 == (ByteArray.mk #[120, 109]))
 .ite y280 (
 .ret (.inr false)) (
 let y281 := (x.2 == (ByteArray.mk #[99, 108]))
 .ite y281 (
 let y282 := (fn46 x.1)
 let y283 := (y282 == true)
 .ite y283 (
 let y284 := (ieq y221 1)
 .ret (.inr y284)) (
 .ret (.inr false))) (
 .ret (.inl (.h0)))))))))))))) (
 let y285 := (x.2 == (ByteArray.mk #[114]))
 .ite y285 (
 let y286 := (fn46 x.1)
 .ret (.inr y286)) (
 let y287 := (x.2 == (ByteArray.mk #[109]))
 .ite y287 (
 .ret (.inr false)) (
 let y288 := (x.2 == (ByteArray.mk #[114, 109]))
 .ite y288 (
 let y289 := (fn46 x.1)
 let y290 := (y289 == false)
 .ite y290 (
 .ret (.inr false)) (
 .ret (.inr true))) (
 let y291 := (x.2 == (ByteArray.mk #[105, 56]))
 .ite y291 (
 let y292 := (eqD CO x.1 (fn47 y220))
 let y293 := (y292 == true)
 .ite y293 (
 let y294 := ((ile (-128) y220) == true)
 .ite y294 (
 let y295 := (ilt y220 128)
 .ret (.inr y295)) (
 .ret (.inr false))) (
 .ret (.inr false))) (
 let y296 := (x.2 == (ByteArray.mk #[117, 56]))
 .ite y296 (
 let y297 := (eqD CO x.1 (fn47 y220))
 let y298 := (y297 == true)
 .ite y298 (
 let y299 := ((ile 0 y220) == true)
 .ite y299 (
 let y300 := (ilt y220 256)
 .ret (.inr y300)) (
 .ret (.inr false))) (
 .ret (.inr false))) (
 let y301 := (x.2 == (ByteArray.mk #[105, 51, 50]))
 .ite y301 (
 let y302 := (eqD CO x.1 (fn47 y220))
 let y303 := (y302 == true)
 .ite y303 (
 let y304 := ((ile (-2147483648) y220) == true)
 .ite y304 (
 let y305 := (ilt y220 2147483648)
 .ret (.inr y305)) (
 .ret (.inr false))) (
 .ret (.inr false))) (
 let y306 := (x.2 == (ByteArray.mk #[105, 54, 52]))
 .ite y306 (
 let y307 := (eqD CO x.1 (fn47 y220))
 .ret (.inr y307)) (
 let y308 := (x.2 == (ByteArray.mk #[120]))
 .ite y308 (
 .ret (.inr false)) (
 let y309 := (x.2 == (ByteArray.mk #[120, 109]))
 .ite y309 (
 .ret (.inr false)) (
 let y310 := (x.2 == (ByteArray.mk #[99, 108]))
 .ite y310 (
 let y311 := (fn46 x.1)
 let y312 := (y311 == true)
 .ite y312 (
 let y313 := (ieq y221 1)
 .ret (.inr y313)) (
 .ret (.inr false))) (
 .ret (.inl (.h0)))))))))))))) (
 let y314 := (x.2 == (ByteArray.mk #[114]))
 .ite y314 (
 let y315 := (fn46 x.1)
 .ret (.inr y315)) (
 let y316 := (x.2 == (ByteArray.mk #[109]))
 .ite y316 (
 .ret (.inr false)) (
 let y317 := (x.2 == (ByteArray.mk #[114, 109]))
 .ite y317 (
 let y318 := (fn46 x.1)
 let y319 := (y318 == false)
 .ite y319 (
 .ret (.inr false)) (
 .ret (.inr true))) (
 let y320 := (x.2 == (ByteArray.mk #[105, 56]))
 .ite y320 (
 let y321 := (eqD CO x.1 (fn47 y220))
 let y322 := (y321 == true)
 .ite y322 (
 let y323 := ((ile (-128) y220) == true)
 .ite y323 (
 let y324 := (ilt y220 128)
 .ret (.inr y324)) (
 .ret (.inr false))) (
 .ret (.inr false))) (
 let y325 := (x.2 == (ByteArray.mk #[117, 56]))
 .ite y325 (
 let y326 := (eqD CO x.1 (fn47 y220))
 let y327 := (y326 == true)
 .ite y327 (
 let y328 := ((ile 0 y220) == true)
 .ite y328 (
 let y329 := (ilt y220 256)
 .ret (.inr y329)) (
 .ret (.inr false))) (
 .ret (.inr false))) (
 let y330 := (x.2 == (ByteArray.mk #[105, 51, 50]))
 .ite y330 (
 let y331 := (eqD CO x.1 (fn47 y220))
 let y332 := (y331 == true)
 .ite y332 (
 let y333 := ((ile (-2147483648) y220) == true)
 .ite y333 (
 let y334 := (ilt y220 2147483648)
 .ret (.inr y334)) (
 .ret (.inr false))) (
 .ret (.inr false))) (
 let y335 := (x.2 == (ByteArray.mk #[105, 54, 52]))
 .ite y335 (
 let y336 := (eqD CO x.1 (fn47 y220))
 .ret (.inr y336)) (
 let y337 := (x.2 == (ByteArray.mk #[120]))
 .ite y337 (
 .ret (.inr false)) (
 let y338 := (x.2 == (ByteArray.mk #[120, 109]))
 .ite y338 (
 .ret (.inr false)) (
 let y339 := (x.2 == (ByteArray.mk #[99, 108]))
 .ite y339 (
 let y340 := (fn46 x.1)
 let y341 := (y340 == true)
 .ite y341 (
 let y342 := y219.1
 let y343 := (ieq y342 1)
 .ret (.inr y343)) (
 .ret (.inr false))) (
 .ret (.inl (.h0)))))))))))))) (
 .ite y1 (
 let y344 := x.1.2
 let y345 := y344.1
 let y346 := ((ile 16 y345) == true)
 .ite y346 (
 let y347 := ((ilt y345 32) == true)
 .ite y347 (
 .need (pre48 y345) <|
 let y348 := (x.2 == (ByteArray.mk #[114]))
 .ite y348 (
 let y349 := (fn46 x.1)
 .ret (.inr y349)) (
 let y350 := (x.2 == (ByteArray.mk #[109]))
 .ite y350 (
 .ret (.inr false)) (
 let y351 := (x.2 == (ByteArray.mk #[114, 109]))
 .ite y351 (
 let y352 := (fn46 x.1)
 let y353 := (y352 == false)
 .ite y353 (
 .ret (.inr false)) (
 .ret (.inr true))) (
 let y354 := (x.2 == (ByteArray.mk #[105, 56]))
 .ite y354 (
 .ret (.inr false)) (
 let y355 := (x.2 == (ByteArray.mk #[117, 56]))
 .ite y355 (
 .ret (.inr false)) (
 let y356 := (x.2 == (ByteArray.mk #[105, 51, 50]))
 .ite y356 (
 .ret (.inr false)) (
 let y357 := (x.2 == (ByteArray.mk #[105, 54, 52]))
 .ite y357 (
 .ret (.inr false)) (
 let y358 := (x.2 == (ByteArray.mk #[120]))
 .ite y358 (
 let y359 := (eqD CO x.1 (fn48 y345))
 .ret (.inr y359)) (
 let y360 := (x.2 == (ByteArray.mk #[120, 109]))
 .ite y360 (
 let y361 := (eqD CO x.1 (fn48 y345))
 let y362 := (y361 == false)
 .ite y362 (
 .ret (.inr false)) (
 .ret (.inr true))) (
 let y363 := (x.2 == (ByteArray.mk #[99, 108]))
 .ite y363 (
 let y364 := (fn46 x.1)
 let y365 := (y364 == true)
 .ite y365 (
 let y366 := (ieq y345 1)
 .ret (.inr y366)) (
 .ret (.inr false))) (
 .ret (.inl (.h0))))))))))))) (
 let y367 := (x.2 == (ByteArray.mk #[114]))
 .ite y367 (
 let y368 := (fn46 x.1)
 .ret (.inr y368)) (
 let y369 := (x.2 == (ByteArray.mk #[109]))
 .ite y369 (
 .ret (.inr false)) (
 let y370 := (x.2 == (ByteArray.mk #[114, 109]))
 .ite y370 (
 let y371 := (fn46 x.1)
 let y372 := (y371 == false)
 .ite y372 (
 .ret (.inr false)) (
 .ret (.inr true))) (
 let y373 := (x.2 == (ByteArray.mk #[105, 56]))
 .ite y373 (
 .ret (.inr false)) (
 let y374 := (x.2 == (ByteArray.mk #[117, 56]))
 .ite y374 (
 .ret (.inr false)) (
 let y375 := (x.2 == (ByteArray.mk #[105, 51, 50]))
 .ite y375 (
 .ret (.inr false)) (
 let y376 := (x.2 == (ByteArray.mk #[105, 54, 52]))
 .ite y376 (
 .ret (.inr false)) (
 let y377 := (x.2 == (ByteArray.mk #[120]))
 .ite y377 (
 .ret (.inr false)) (
 let y378 := (x.2 == (ByteArray.mk #[120, 109]))
 .ite y378 (
 .ret (.inr false)) (
 let y379 := (x.2 == (ByteArray.mk #[99, 108]))
 .ite y379 (
 let y380 := (fn46 x.1)
 let y381 := (y380 == true)
 .ite y381 (
 let y382 := (ieq y345 1)
 .ret (.inr y382)) (
 .ret (.inr false))) (
 .ret (.inl (.h0)))))))))))))) (
 let y383 := (x.2 == (ByteArray.mk #[114]))
 .ite y383 (
 let y384 := (fn46 x.1)
 .ret (.inr y384)) (
 let y385 := (x.2 == (ByteArray.mk #[109]))
 .ite y385 (
 .ret (.inr false)) (
 let y386 := (x.2 == (ByteArray.mk #[114, 109]))
 .ite y386 (
 let y387 := (fn46 x.1)
 let y388 := (y387 == false)
 .ite y388 (
 .ret (.inr false)) (
 .ret (.inr true))) (
 let y389 := (x.2 == (ByteArray.mk #[105, 56]))
 .ite y389 (
 .ret (.inr false)) (
 let y390 := (x.2 == (ByteArray.mk #[117, 56]))
 .ite y390 (
 .ret (.inr false)) (
 let y391 := (x.2 == (ByteArray.mk #[105, 51, 50]))
 .ite y391 (
 .ret (.inr false)) (
 let y392 := (x.2 == (ByteArray.mk #[105, 54, 52]))
 .ite y392 (
 .ret (.inr false)) (
 let y393 := (x.2 == (ByteArray.mk #[120]))
 .ite y393 (
 .ret (.inr false)) (
 let y394 := (x.2 == (ByteArray.mk #[120, 109]))
 .ite y394 (
 .ret (.inr false)) (
 let y395 := (x.2 == (ByteArray.mk #[99, 108]))
 .ite y395 (
 let y396 := (fn46 x.1)
 let y397 := (y396 == true)
 .ite y397 (
 let y398 := (ieq y345 1)
 .ret (.inr y398)) (
 .ret (.inr false))) (
 .ret (.inl (.h0)))))))))))))) (
 let y399 := (x.2 == (ByteArray.mk #[114]))
 .ite y399 (
 let y400 := (fn46 x.1)
 .ret (.inr y400)) (
 let y401 := (x.2 == (ByteArray.mk #[109]))
 .ite y401 (
 .ret (.inr false)) (
 let y402 := (x.2 == (ByteArray.mk #[114, 109]))
 .ite y402 (
 let y403 := (fn46 x.1)
 let y404 := (y403 == false)
 .ite y404 (
 .ret (.inr false)) (
 .ret (.inr true))) (
 let y405 := (x.2 == (ByteArray.mk #[105, 56]))
 .ite y405 (
 .ret (.inr false)) (
 let y406 := (x.2 == (ByteArray.mk #[117, 56]))
 .ite y406 (
 .ret (.inr false)) (
 let y407 := (x.2 == (ByteArray.mk #[105, 51, 50]))
 .ite y407 (
 .ret (.inr false)) (
 let y408 := (x.2 == (ByteArray.mk #[105, 54, 52]))
 .ite y408 (
 .ret (.inr false)) (
 let y409 := (x.2 == (ByteArray.mk #[120]))
 .ite y409 (
 .ret (.inr false)) (
 let y410 := (x.2 == (ByteArray.mk #[120, 109]))
 .ite y410 (
 .ret (.inr false)) (
 let y411 := (x.2 == (ByteArray.mk #[99, 108]))
 .ite y411 (
 let y412 := (fn46 x.1)
 let y413 := (y412 == true)
 .ite y413 (
 let y414 := x.1.2
 let y415 := y414.1
 let y416 := (ieq y415 1)
 .ret (.inr y416)) (
 .ret (.inr false))) (
 .ret (.inl (.h0)))))))))))))))) (
 let y417 := ((ieq y0 2) == true)
 .ite y417 (
 .need (pre46 x.1) <|
 let y418 := ((ieq y0 3) == true)
 .ite y418 (
 let y419 := x.1.2
 let y420 := y419.2.2.2.2.2.2
 .need (pre47 y420) <|
 .ite y1 (
 let y421 := y419.1
 let y422 := ((ile 16 y421) == true)
 .ite y422 (
 let y423 := ((ilt y421 32) == true)
 .ite y423 (
 .need (pre48 y421) <|
 let y424 := (x.2 == (ByteArray.mk #[114]))
 .ite y424 (
 .ret (.inr false)) (
 let y425 := (x.2 == (ByteArray.mk #[109]))
 .ite y425 (
 let y426 := (fn46 x.1)
 .ret (.inr y426)) (
 let y427 := (x.2 == (ByteArray.mk #[114, 109]))
 .ite y427 (
 let y428 := (fn46 x.1)
 .ret (.inr y428)) (
 let y429 := (x.2 == (ByteArray.mk #[105, 56]))
 .ite y429 (
 let y430 := (eqD CO x.1 (fn47 y420))
 let y431 := (y430 == true)
 .ite y431 (
 let y432 := ((ile (-128) y420) == true)
 .ite y432 (
 let y433 := (ilt y420 128)
 .ret (.inr y433)) (
 .ret (.inr false))) (
 .ret (.inr false))) (
 let y434 := (x.2 == (ByteArray.mk #[117, 56]))
 .ite y434 (
 let y435 := (eqD CO x.1 (fn47 y420))
 let y436 := (y435 == true)
 .ite y436 (
 let y437 := ((ile 0 y420) == true)
 .ite y437 (
 let y438 := (ilt y420 256)
 .ret (.inr y438)) (
 .ret (.inr false))) (
 .ret (.inr false))) (
 let y439 := (x.2 == (ByteArray.mk #[105, 51, 50]))
 .ite y439 (
 let y440 := (eqD CO x.1 (fn47 y420))
 let y441 := (y440 == true)
 .ite y441 (
 let y442 := ((ile (-2147483648) y420) == true)
 .ite y442 (
 let y443 := (ilt y420 2147483648)
 .ret (.inr y443)) (
 .ret (.inr false))) (
 .ret (.inr false))) (
 let y444 := (x.2 == (ByteArray.mk #[105, 54, 52]))
 .ite y444 (
 let y445 := (eqD CO x.1 (fn47 y420))
 .ret (.inr y445)) (
 let y446 := (x.2 == (ByteArray.mk #[120]))
 .ite y446 (
 let y447 := (eqD CO x.1 (fn48 y421))
 .ret (.inr y447)) (
 let y448 := (x.2 == (ByteArray.mk #[120, 109]))
 .ite y448 (
 let y449 := (eqD CO x.1 (fn48 y421))
 let y450 := (y449 == false)
 .ite y450 (
 let y451 := (fn46 x.1)
 .ret (.inr y451)) (
 .ret (.inr true))) (
 let y452 := (x.2 == (ByteArray.mk #[99, 108]))
 .ite y452 (
 .ret (.inr false)) (
 .ret (.inl (.h0))))))))))))) (
 let y453 := (x.2 == (ByteArray.mk #[114]))
 .ite y453 (
 .ret (.inr false)) (
 let y454 := (x.2 == (ByteArray.mk #[109]))
 .ite y454 (
 let y455 := (fn46 x.1)
 .ret (.inr y455)) (
 let y456 := (x.2 == (ByteArray.mk #[114, 109]))
 .ite y456 (
 let y457 := (fn46 x.1)
 .ret (.inr y457)) (
 let y458 := (x.2 == (ByteArray.mk #[105, 56]))
 .ite y458 (
 let y459 := (eqD CO x.1 (fn47 y420))
 let y460 := (y459 == true)
 .ite y460 (
 let y461 := ((ile (-128) y420) == true)
 .ite y461 (
 let y462 := (ilt y420 128)
 .ret (.inr y462)) (
 .ret (.inr false))) (
 .ret (.inr false))) (
 let y463 := (x.2 == (ByteArray.mk #[117, 56]))
 .ite y463 (
 let y464 := (eqD CO x.1 (fn47 y420))
 let y465 := (y464 == true)
 .ite y465 (
 let y466 := ((ile 0 y420) == true)
 .ite y466 (
 let y467 := (ilt y420 256)
 .ret (.inr y467)) (
 .ret (.inr false))) (
 .ret (.inr false))) (
 let y468 := (x.2 == (ByteArray.mk #[105, 51, 50]))
 .ite y468 (
 let y469 := (eqD CO x.1 (fn47 y420))
 let y470 := (y469 == true)
 .ite y470 (
 let y471 := ((ile (-2147483648) y420) == true)
 .ite y471 (
 let y472 := (ilt y420 2147483648)
 .ret (.inr y472)) (
 .ret (.inr false))) (
 .ret (.inr false))) (
 let y473 := (x.2 == (ByteArray.mk #[105, 54, 52]))
 .ite y473 (
 let y474 := (eqD CO x.1 (fn47 y420))
 .ret (.inr y474)) (
 let y475 := (x.2 == (ByteArray.mk #[120]))
 .ite y475 (
 .ret (.inr false)) (
 let y476 := (x.2 == (ByteArray.mk #[120, 109]))
 .ite y476 (
 let y477 := (fn46 x.1)
 .ret (.inr y477)) (
 let y478 := (x.2 == (ByteArray.mk #[99, 108]))
 .ite y478 (
 .ret (.inr false)) (
 .ret (.inl (.h0)))))))))))))) (
 let y479 := (x.2 == (ByteArray.mk #[114]))
 .ite y479 (
 .ret (.inr false)) (
 let y480 := (x.2 == (ByteArray.mk #[109]))
 .ite y480 (
 let y481 := (fn46 x.1)
 .ret (.inr y481)) (
 let y482 := (x.2 == (ByteArray.mk #[114, 109]))
 .ite y482 (
 let y483 := (fn46 x.1)
 .ret (.inr y483)) (
 let y484 := (x.2 == (ByteArray.mk #[105, 56]))
 .ite y484 (
 let y485 := (eqD CO x.1 (fn47 y420))
 let y486 := (y485 == true)
 .ite y486 (
 let y487 := ((ile (-128) y420) == true)
 .ite y487 (
 let y488 := (ilt y420 128)
 .ret (.inr y488)) (
 .ret (.inr false))) (
 .ret (.inr false))) (
 let y489 := (x.2 == (ByteArray.mk #[117, 56]))
 .ite y489 (
 let y490 := (eqD CO x.1 (fn47 y420))
 let y491 := (y490 == true)
 .ite y491 (
 let y492 := ((ile 0 y420) == true)
 .ite y492 (
 let y493 := (ilt y420 256)
 .ret (.inr y493)) (
 .ret (.inr false))) (
 .ret (.inr false))) (
 let y494 := (x.2 == (ByteArray.mk #[105, 51, 50]))
 .ite y494 (
 let y495 := (eqD CO x.1 (fn47 y420))
 let y496 := (y495 == true)
 .ite y496 (
 let y497 := ((ile (-2147483648) y420) == true)
 .ite y497 (
 let y498 := (ilt y420 2147483648)
 .ret (.inr y498)) (
 .ret (.inr false))) (
 .ret (.inr false))) (
 let y499 := (x.2 == (ByteArray.mk #[105, 54, 52]))
 .ite y499 (
 let y500 := (eqD CO x.1 (fn47 y420))
 .ret (.inr y500)) (
 let y501 := (x.2 == (ByteArray.mk #[120]))
 .ite y501 (
 .ret (.inr false)) (
 let y502 := (x.2 == (ByteArray.mk #[120, 109]))
 .ite y502 (
 let y503 := (fn46 x.1)
 .ret (.inr y503)) (
 let y504 := (x.2 == (ByteArray.mk #[99, 108]))
 .ite y504 (
 .ret (.inr false)) (
 .ret (.inl (.h0)))))))))))))) (
 let y505 := (x.2 == (ByteArray.mk #[114]))
 .ite y505 (
 .ret (.inr false)) (
 let y506 := (x.2 == (ByteArray.mk #[109]))
 .ite y506 (
 let y507 := (fn46 x.1)
 .ret (.inr y507)) (
 let y508 := (x.2 == (ByteArray.mk #[114, 109]))
 .ite y508 (
 let y509 := (fn46 x.1)
 .ret (.inr y509)) (
 let y510 := (x.2 == (ByteArray.mk #[105, 56]))
 .ite y510 (
 let y511 := (eqD CO x.1 (fn47 y420))
 let y512 := (y511 == true)
 .ite y512 (
 let y513 := ((ile (-128) y420) == true)
 .ite y513 (
 let y514 := (ilt y420 128)
 .ret (.inr y514)) (
 .ret (.inr false))) (
 .ret (.inr false))) (
 let y515 := (x.2 == (ByteArray.mk #[117, 56]))
 .ite y515 (
 let y516 := (eqD CO x.1 (fn47 y420))
 let y517 := (y516 == true)
 .ite y517 (
 let y518 := ((ile 0 y420) == true)
 .ite y518 (
 let y519 := (ilt y420 256)
 .ret (.inr y519)) (
 .ret (.inr false))) (
 .ret (.inr false))) (
 let y520 := (x.2 == (ByteArray.mk #[105, 51, 50]))
 .ite y520 (
 let y521 := (eqD CO x.1 (fn47 y420))
 let y522 := (y521 == true)
 .ite y522 (
 let y523 := ((ile (-2147483648) y420) == true)
 .ite y523 (
 let y524 := (ilt y420 2147483648)
 .ret (.inr y524)) (
 .ret (.inr false))) (
 .ret (.inr false))) (
 let y525 := (x.2 == (ByteArray.mk #[105, 54, 52]))
 .ite y525 (
 let y526 := (eqD CO x.1 (fn47 y420))
 .ret (.inr y526)) (
 let y527 := (x.2 == (ByteArray.mk #[120]))
 .ite y527 (
 .ret (.inr false)) (
 let y528 := (x.2 == (ByteArray.mk #[120, 109]))
 .ite y528 (
 let y529 := (fn46 x.1)
 .ret (.inr y529)) (
 let y530 := (x.2 == (ByteArray.mk #[99, 108]))
 .ite y530 (
 .ret (.inr false)) (
 .ret (.inl (.h0)))))))))))))) (
 .ite y1 (
 let y531 := x.1.2
 let y532 := y531.1
 let y533 := ((ile 16 y532) == true)
 .ite y533 (
 let y534 := ((ilt y532 32) == true)
 .ite y534 (
 .need (pre48 y532) <|
 let y535 := (x.2 == (ByteArray.mk #[114]))
 .ite y535 (
 .ret (.inr false)) (
 let y536 := (x.2 == (ByteArray.mk #[109]))
 .ite y536 (
 let y537 := (fn46 x.1)
 .ret (.inr y537)) (
 let y538 := (x.2 == (ByteArray.mk #[114, 109]))
 .ite y538 (
 let y539 := (fn46 x.1)
 .ret (.inr y539)) (
 let y540 := (x.2 == (ByteArray.mk #[105, 56]))
 .ite y540 (
 .ret (.inr false)) (
 let y541 := (x.2 == (ByteArray.mk #[117, 56]))
 .ite y541 (
 .ret (.inr false)) (
 let y542 := (x.2 == (ByteArray.mk #[105, 51, 50]))
 .ite y542 (
 .ret (.inr false)) (
 let y543 := (x.2 == (ByteArray.mk #[105, 54, 52]))
 .ite y543 (
 .ret (.inr false)) (
 let y544 := (x.2 == (ByteArray.mk #[120]))
 .ite y544 (
 let y545 := (eqD CO x.1 (fn48 y532))
 .ret (.inr y545)) (
 let y546 := (x.2 == (ByteArray.mk #[120, 109]))
 .ite y546 (
 let y547 := (eqD CO x.1 (fn48 y532))
 let y548 := (y547 == false)
 .ite y548 (
 let y549 := (fn46 x.1)
 .ret (.inr y549)) (
 .ret (.inr true))) (
 let y550 := (x.2 == (ByteArray.mk #[99, 108]))
 .ite y550 (
 .ret (.inr false)) (
 .ret (.inl (.h0))))))))))))) (
 let y551 := (x.2 == (ByteArray.mk #[114]))
 .ite y551 (
 .ret (.inr false)) (
 let y552 := (x.2 == (ByteArray.mk #[109]))
 .ite y552 (
 let y553 := (fn46 x.1)
 .ret (.inr y553)) (
 let y554 := (x.2 == (ByteArray.mk #[114, 109]))
 .ite y554 (
 let y555 := (fn46 x.1)
 .ret (.inr y555)) (
 let y556 := (x.2 == (ByteArray.mk #[105, 56]))
 .ite y556 (
 .ret (.inr false)) (
 let y557 := (x.2 == (ByteArray.mk #[117, 56]))
 .ite y557 (
 .ret (.inr false)) (
 let y558 := (x.2 == (ByteArray.mk #[105, 51, 50]))
 .ite y558 (
 .ret (.inr false)) (
 let y559 := (x.2 == (ByteArray.mk #[105, 54, 52]))
 .ite y559 (
 .ret (.inr false)) (
 let y560 := (x.2 == (ByteArray.mk #[120]))
 .ite y560 (
 .ret (.inr false)) (
 let y561 := (x.2 == (ByteArray.mk #[120, 109]))
 .ite y561 (
 let y562 := (fn46 x.1)
 .ret (.inr y562)) (
 let y563 := (x.2 == (ByteArray.mk #[99, 108]))
 .ite y563 (
 .ret (.inr false)) (
 .ret (.inl (.h0)))))))))))))) (
 let y564 := (x.2 == (ByteArray.mk #[114]))
 .ite y564 (
 .ret (.inr false)) (
 let y565 := (x.2 == (ByteArray.mk #[109]))
 .ite y565 (
 let y566 := (fn46 x.1)
 .ret (.inr y566)) (
 let y567 := (x.2 == (ByteArray.mk #[114, 109]))
 .ite y567 (
 let y568 := (fn46 x.1)
 .ret (.inr y568)) (
 let y569 := (x.2 == (ByteArray.mk #[105, 56]))
 .ite y569 (
 .ret (.inr false)) (
 let y570 := (x.2 == (ByteArray.mk #[117, 56]))
 .ite y570 (
 .ret (.inr false)) (
 let y571 := (x.2 == (ByteArray.mk #[105, 51, 50]))
 .ite y571 (
 .ret (.inr false)) (
 let y572 := (x.2 == (ByteArray.mk #[105, 54, 52]))
 .ite y572 (
 .ret (.inr false)) (
 let y573 := (x.2 == (ByteArray.mk #[120]))
 .ite y573 (
 .ret (.inr false)) (
 let y574 := (x.2 == (ByteArray.mk #[120, 109]))
 .ite y574 (
 let y575 := (fn46 x.1)
 .ret (.inr y575)) (
 let y576 := (x.2 == (ByteArray.mk #[99, 108]))
 .ite y576 (
 .ret (.inr false)) (
 .ret (.inl (.h0)))))))))))))) (
 let y577 := (x.2 == (ByteArray.mk #[114]))
 .ite y577 (
 .ret (.inr false)) (
 let y578 := (x.2 == (ByteArray.mk #[109]))
 .ite y578 (
 let y579 := (fn46 x.1)
 .ret (.inr y579)) (
 let y580 := (x.2 == (ByteArray.mk #[114, 109]))
 .ite y580 (
 let y581 := (fn46 x.1)
 .ret (.inr y581)) (
 let y582 := (x.2 == (ByteArray.mk #[105, 56]))
 .ite y582 (
 .ret (.inr false)) (
 let y583 := (x.2 == (ByteArray.mk #[117, 56]))
 .ite y583 (
 .ret (.inr false)) (
 let y584 := (x.2 == (ByteArray.mk #[105, 51, 50]))
 .ite y584 (
 .ret (.inr false)) (
 let y585 := (x.2 == (ByteArray.mk #[105, 54, 52]))
 .ite y585 (
 .ret (.inr false)) (
 let y586 := (x.2 == (ByteArray.mk #[120]))
 .ite y586 (
 .ret (.inr false)) (
 let y587 := (x.2 == (ByteArray.mk #[120, 109]))
 .ite y587 (
 let y588 := (fn46 x.1)
 .ret (.inr y588)) (
 let y589 := (x.2 == (ByteArray.mk #[99, 108]))
 .ite y589 (
 .ret (.inr false)) (
 .ret (.inl (.h0))))))))))))))) (
 let y590 := ((ieq y0 3) == true)
 .ite y590 (
 let y591 := x.1.2
 let y592 := y591.2.2.2.2.2.2
 .need (pre47 y592) <|
 .ite y1 (
 let y593 := y591.1
 let y594 := ((ile 16 y593) == true)
 .ite y594 (
 let y595 := ((ilt y593 32) == true)
 .ite y595 (
 .need (pre48 y593) <|
 let y596 := (x.2 == (ByteArray.mk #[114]))
 .ite y596 (
 .ret (.inr false)) (
 let y597 := (x.2 == (ByteArray.mk #[109]))
 .ite y597 (
 .ret (.inr false)) (
 let y598 := (x.2 == (ByteArray.mk #[114, 109]))
 .ite y598 (
 .ret (.inr false)) (
 let y599 := (x.2 == (ByteArray.mk #[105, 56]))
 .ite y599 (
 let y600 := (eqD CO x.1 (fn47 y592))
 let y601 := (y600 == true)
 .ite y601 (
 let y602 := ((ile (-128) y592) == true)
 .ite y602 (
 let y603 := (ilt y592 128)
 .ret (.inr y603)) (
 .ret (.inr false))) (
 .ret (.inr false))) (
 let y604 := (x.2 == (ByteArray.mk #[117, 56]))
 .ite y604 (
 let y605 := (eqD CO x.1 (fn47 y592))
 let y606 := (y605 == true)
 .ite y606 (
 let y607 := ((ile 0 y592) == true)
 .ite y607 (
 let y608 := (ilt y592 256)
 .ret (.inr y608)) (
 .ret (.inr false))) (
 .ret (.inr false))) (
 let y609 := (x.2 == (ByteArray.mk #[105, 51, 50]))
 .ite y609 (
 let y610 := (eqD CO x.1 (fn47 y592))
 let y611 := (y610 == true)
 .ite y611 (
 let y612 := ((ile (-2147483648) y592) == true)
 .ite y612 (
 let y613 := (ilt y592 2147483648)
 .ret (.inr y613)) (
 .ret (.inr false))) (
 .ret (.inr false))) (
 let y614 := (x.2 == (ByteArray.mk #[105, 54, 52]))
 .ite y614 (
 let y615 := (eqD CO x.1 (fn47 y592))
 .ret (.inr y615)) (
 let y616 := (x.2 == (ByteArray.mk #[120]))
 .ite y616 (
 let y617 := (eqD CO x.1 (fn48 y593))
 .ret (.inr y617)) (
 let y618 := (x.2 == (ByteArray.mk #[120, 109]))
 .ite y618 (
 let y619 := (eqD CO x.1 (fn48 y593))
 let y620 := (y619 == false)
 .ite y620 (
 .ret (.inr false)) (
 .ret (.inr true))) (
 let y621 := (x.2 == (ByteArray.mk #[99, 108]))
 .ite y621 (
 .ret (.inr false)) (
 .ret (.inl (.h0))))))))))))) (
 let y622 := (x.2 == (ByteArray.mk #[114]))
 .ite y622 (
 .ret (.inr false)) (
 let y623 := (x.2 == (ByteArray.mk #[109]))
 .ite y623 (
 .ret (.inr false)) (
 let y624 := (x.2 == (ByteArray.mk #[114, 109]))
 .ite y624 (
 .ret (.inr false)) (
 let y625 := (x.2 == (ByteArray.mk #[105, 56]))
 .ite y625 (
 let y626 := (eqD CO x.1 (fn47 y592))
 let y627 := (y626 == true)
 .ite y627 (
 let y628 := ((ile (-128) y592) == true)
 .ite y628 (
 let y629 := (ilt y592 128)
 .ret (.inr y629)) (
 .ret (.inr false))) (
 .ret (.inr false))) (
 let y630 := (x.2 == (ByteArray.mk #[117, 56]))
 .ite y630 (
 let y631 := (eqD CO x.1 (fn47 y592))
 let y632 := (y631 == true)
 .ite y632 (
 let y633 := ((ile 0 y592) == true)
 .ite y633 (
 let y634 := (ilt y592 256)
 .ret (.inr y634)) (
 .ret (.inr false))) (
 .ret (.inr false))) (
 let y635 := (x.2 == (ByteArray.mk #[105, 51, 50]))
 .ite y635 (
 let y636 := (eqD CO x.1 (fn47 y592))
 let y637 := (y636 == true)
 .ite y637 (
 let y638 := ((ile (-2147483648) y592) == true)
 .ite y638 (
 let y639 := (ilt y592 2147483648)
 .ret (.inr y639)) (
 .ret (.inr false))) (
 .ret (.inr false))) (
 let y640 := (x.2 == (ByteArray.mk #[105, 54, 52]))
 .ite y640 (
 let y641 := (eqD CO x.1 (fn47 y592))
 .ret (.inr y641)) (
 let y642 := (x.2 == (ByteArray.mk #[120]))
 .ite y642 (
 .ret (.inr false)) (
 let y643 := (x.2 == (ByteArray.mk #[120, 109]))
 .ite y643 (
 .ret (.inr false)) (
 let y644 := (x.2 == (ByteArray.mk #[99, 108]))
 .ite y644 (
 .ret (.inr false)) (
 .ret (.inl (.h0)))))))))))))) (
 let y645 := (x.2 == (ByteArray.mk #[114]))
 .ite y645 (
 .ret (.inr false)) (
 let y646 := (x.2 == (ByteArray.mk #[109]))
 .ite y646 (
 .ret (.inr false)) (
 let y647 := (x.2 == (ByteArray.mk #[114, 109]))
 .ite y647 (
 .ret (.inr false)) (
 let y648 := (x.2 == (ByteArray.mk #[105, 56]))
 .ite y648 (
 let y649 := (eqD CO x.1 (fn47 y592))
 let y650 := (y649 == true)
 .ite y650 (
 let y651 := ((ile (-128) y592) == true)
 .ite y651 (
 let y652 := (ilt y592 128)
 .ret (.inr y652)) (
 .ret (.inr false))) (
 .ret (.inr false))) (
 let y653 := (x.2 == (ByteArray.mk #[117, 56]))
 .ite y653 (
 let y654 := (eqD CO x.1 (fn47 y592))
 let y655 := (y654 == true)
 .ite y655 (
 let y656 := ((ile 0 y592) == true)
 .ite y656 (
 let y657 := (ilt y592 256)
 .ret (.inr y657)) (
 .ret (.inr false))) (
 .ret (.inr false))) (
 let y658 := (x.2 == (ByteArray.mk #[105, 51, 50]))
 .ite y658 (
 let y659 := (eqD CO x.1 (fn47 y592))
 let y660 := (y659 == true)
 .ite y660 (
 let y661 := ((ile (-2147483648) y592) == true)
 .ite y661 (
 let y662 := (ilt y592 2147483648)
 .ret (.inr y662)) (
 .ret (.inr false))) (
 .ret (.inr false))) (
 let y663 := (x.2 == (ByteArray.mk #[105, 54, 52]))
 .ite y663 (
 let y664 := (eqD CO x.1 (fn47 y592))
 .ret (.inr y664)) (
 let y665 := (x.2 == (ByteArray.mk #[120]))
 .ite y665 (
 .ret (.inr false)) (
 let y666 := (x.2 == (ByteArray.mk #[120, 109]))
 .ite y666 (
 .ret (.inr false)) (
 let y667 := (x.2 == (ByteArray.mk #[99, 108]))
 .ite y667 (
 .ret (.inr false)) (
 .ret (.inl (.h0)))))))))))))) (
 let y668 := (x.2 == (ByteArray.mk #[114]))
 .ite y668 (
 .ret (.inr false)) (
 let y669 := (x.2 == (ByteArray.mk #[109]))
 .ite y669 (
 .ret (.inr false)) (
 let y670 := (x.2 == (ByteArray.mk #[114, 109]))
 .ite y670 (
 .ret (.inr false)) (
 let y671 := (x.2 == (ByteArray.mk #[105, 56]))
 .ite y671 (
 let y672 := (eqD CO x.1 (fn47 y592))
 let y673 := (y672 == true)
 .ite y673 (
 let y674 := ((ile (-128) y592) == true)
 .ite y674 (
 let y675 := (ilt y592 128)
 .ret (.inr y675)) (
 .ret (.inr false))) (
 .ret (.inr false))) (
 let y676 := (x.2 == (ByteArray.mk #[117, 56]))
 .ite y676 (
 let y677 := (eqD CO x.1 (fn47 y592))
 let y678 := (y677 == true)
 .ite y678 (
 let y679 := ((ile 0 y592) == true)
 .ite y679 (
 let y680 := (ilt y592 256)
 .ret (.inr y680)) (
 .ret (.inr false))) (
 .ret (.inr false))) (
 let y681 := (x.2 == (ByteArray.mk #[105, 51, 50]))
 .ite y681 (
 let y682 := (eqD CO x.1 (fn47 y592))
 let y683 := (y682 == true)
 .ite y683 (
 let y684 := ((ile (-2147483648) y592) == true)
 .ite y684 (
 let y685 := (ilt y592 2147483648)
 .ret (.inr y685)) (
 .ret (.inr false))) (
 .ret (.inr false))) (
 let y686 := (x.2 == (ByteArray.mk #[105, 54, 52]))
 .ite y686 (
 let y687 := (eqD CO x.1 (fn47 y592))
 .ret (.inr y687)) (
 let y688 := (x.2 == (ByteArray.mk #[120]))
 .ite y688 (
 .ret (.inr false)) (
 let y689 := (x.2 == (ByteArray.mk #[120, 109]))
 .ite y689 (
 .ret (.inr false)) (
 let y690 := (x.2 == (ByteArray.mk #[99, 108]))
 .ite y690 (
 .ret (.inr false)) (
 .ret (.inl (.h0)))))))))))))) (
 .ite y1 (
 let y691 := x.1.2
 let y692 := y691.1
 let y693 := ((ile 16 y692) == true)
 .ite y693 (
 let y694 := ((ilt y692 32) == true)
 .ite y694 (
 .need (pre48 y692) <|
 let y695 := (x.2 == (ByteArray.mk #[114]))
 .ite y695 (
 .ret (.inr false)) (
 let y696 := (x.2 == (ByteArray.mk #[109]))
 .ite y696 (
 .ret (.inr false)) (
 let y697 := (x.2 == (ByteArray.mk #[114, 109]))
 .ite y697 (
 .ret (.inr false)) (
 let y698 := (x.2 == (ByteArray.mk #[105, 56]))
 .ite y698 (
 .ret (.inr false)) (
 let y699 := (x.2 == (ByteArray.mk #[117, 56]))
 .ite y699 (
 .ret (.inr false)) (
 let y700 := (x.2 == (ByteArray.mk #[105, 51, 50]))
 .ite y700 (
 .ret (.inr false)) (
 let y701 := (x.2 == (ByteArray.mk #[105, 54, 52]))
 .ite y701 (
 .ret (.inr false)) (
 let y702 := (x.2 == (ByteArray.mk #[120]))
 .ite y702 (
 let y703 := (eqD CO x.1 (fn48 y692))
 .ret (.inr y703)) (
 let y704 := (x.2 == (ByteArray.mk #[120, 109]))
 .ite y704 (
 let y705 := (eqD CO x.1 (fn48 y692))
 let y706 := (y705 == false)
 .ite y706 (
 .ret (.inr false)) (
 .ret (.inr true))) (
 let y707 := (x.2 == (ByteArray.mk #[99, 108]))
 .ite y707 (
 .ret (.inr false)) (
 .ret (.inl (.h0))))))))))))) (
 let y708 := (x.2 == (ByteArray.mk #[114]))
 .ite y708 (
 .ret (.inr false)) (
 let y709 := (x.2 == (ByteArray.mk #[109]))
 .ite y709 (
 .ret (.inr false)) (
 let y710 := (x.2 == (ByteArray.mk #[114, 109]))
 .ite y710 (
 .ret (.inr false)) (
 let y711 := (x.2 == (ByteArray.mk #[105, 56]))
 .ite y711 (
 .ret (.inr false)) (
 let y712 := (x.2 == (ByteArray.mk #[117, 56]))
 .ite y712 (
 .ret (.inr false)) (
 let y713 := (x.2 == (ByteArray.mk #[105, 51, 50]))
 .ite y713 (
 .ret (.inr false)) (
 let y714 := (x.2 == (ByteArray.mk #[105, 54, 52]))
 .ite y714 (
 .ret (.inr false)) (
 let y715 := (x.2 == (ByteArray.mk #[120]))
 .ite y715 (
 .ret (.inr false)) (
 let y716 := (x.2 == (ByteArray.mk #[120, 109]))
 .ite y716 (
 .ret (.inr false)) (
 let y717 := (x.2 == (ByteArray.mk #[99, 108]))
 .ite y717 (
 .ret (.inr false)) (
 .ret (.inl (.h0)))))))))))))) (
 let y718 := (x.2 == (ByteArray.mk #[114]))
 .ite y718 (
 .ret (.inr false)) (
 let y719 := (x.2 == (ByteArray.mk #[109]))
 .ite y719 (
 .ret (.inr false)) (
 let y720 := (x.2 == (ByteArray.mk #[114, 109]))
 .ite y720 (
 .ret (.inr false)) (
 let y721 := (x.2 == (ByteArray.mk #[105, 56]))
 .ite y721 (
 .ret (.inr false)) (
 let y722 := (x.2 == (ByteArray.mk #[117, 56]))
 .ite y722 (
 .ret (.inr false)) (
 let y723 := (x.2 == (ByteArray.mk #[105, 51, 50]))
 .ite y723 (
 .ret (.inr false)) (
 let y724 := (x.2 == (ByteArray.mk #[105, 54, 52]))
 .ite y724 (
 .ret (.inr false)) (
 let y725 := (x.2 == (ByteArray.mk #[120]))
 .ite y725 (
 .ret (.inr false)) (
 let y726 := (x.2 == (ByteArray.mk #[120, 109]))
 .ite y726 (
 .ret (.inr false)) (
 let y727 := (x.2 == (ByteArray.mk #[99, 108]))
 .ite y727 (
 .ret (.inr false)) (
 .ret (.inl (.h0)))))))))))))) (
 let y728 := (x.2 == (ByteArray.mk #[114]))
 .ite y728 (
 .ret (.inr false)) (
 let y729 := (x.2 == (ByteArray.mk #[109]))
 .ite y729 (
 .ret (.inr false)) (
 let y730 := (x.2 == (ByteArray.mk #[114, 109]))
 .ite y730 (
 .ret (.inr false)) (
 let y731 := (x.2 == (ByteArray.mk #[105, 56]))
 .ite y731 (
 .ret (.inr false)) (
 let y732 := (x.2 == (ByteArray.mk #[117, 56]))
 .ite y732 (
 .ret (.inr false)) (
 let y733 := (x.2 == (ByteArray.mk #[105, 51, 50]))
 .ite y733 (
 .ret (.inr false)) (
 let y734 := (x.2 == (ByteArray.mk #[105, 54, 52]))
 .ite y734 (
 .ret (.inr false)) (
 let y735 := (x.2 == (ByteArray.mk #[120]))
 .ite y735 (
 .ret (.inr false)) (
 let y736 := (x.2 == (ByteArray.mk #[120, 109]))
 .ite y736 (
 .ret (.inr false)) (
 let y737 := (x.2 == (ByteArray.mk #[99, 108]))
 .ite y737 (
 .ret (.inr false)) (
 .ret (.inl (.h0))))))))))))))))
noncomputable def step28 (x : (DO × ByteArray)) : J28 → Tr (J28 ⊕ Bool)
 | .h0 =>
 .ret (.inr (eqD CO x.1 (0, (0, (0, (0, (0, (0, (false, 0)))))))))
noncomputable def head28 (x : (DO × ByteArray)) : J28 → Head
 | .h0 =>
 { fr := { id := 28, kind := .top, T := [.any, .any, (.ptr 0 [])] ++ List.replicate 125 .any, items := [.code (subc [1, 1, 1, 1, 1, 1, 0] (bodyOf Tryz.f28)), .code (subc [1, 1, 1, 1, 1, 1, 1] (bodyOf Tryz.f28))], D := [], base := 0 },
   stk := [],
   H := [.cell true 23 (.agg [1, 1, 1, 1, 1, 1, 1, 1] [(.int .u8 x.1.1), (.int .i64 x.1.2.1), (.int .i64 x.1.2.2.1), (.int .i64 x.1.2.2.2.1), (.int .i64 x.1.2.2.2.2.1), (.int .i64 x.1.2.2.2.2.2.1), (.bool x.1.2.2.2.2.2.2.1), (.int .i64 x.1.2.2.2.2.2.2.2)])] }
noncomputable def stop28 : FuncId → Nat → Nat → Option Cut
  | 28, 53, 0 => some { tmps := [2], loops := [], dead := [], stk := [] }
  | _, _, _ => none
noncomputable def fn28 (x : (DO × ByteArray)) : Bool := endVal (TC.dflt .bool) (step28 x) (tree28 x)
def pre28 (x : (DO × ByteArray)) : Prop := ∃ r, Ends (step28 x) r (tree28 x)
noncomputable def spec28 : Spec := { dom := (.st CO (.st1 .str)), cod := .bool, n := 1, pre := pre28, f := fn28 }
noncomputable def need28 : FuncId → Option Spec
  | 46 => some spec46
  | 47 => some spec47
  | 48 => some spec48
  | _ => none
theorem need28_ok : ∀ f sp, need28 f = some sp → SpecOk env0 f sp := by
  intro f sp h
  unfold need28 at h
  split at h
  · cases h; exact ok46
  · cases h; exact ok47
  · cases h; exact ok48
  · cases h
section
variable (W : Cfg) (Q : Bool → Prop) (x : (DO × ByteArray))
theorem run28 : run (env need28 (fun _ _ => none)) stop28 (finS spec28 Q) W 100000 (startFr 28 Tryz.f28 (bodyOf Tryz.f28) (argsOf (.st CO (.st1 .str)) x)) [] [] = (tree28 x).wp (kont W Q (head28 x)) := by kernel_rfl
theorem run28h0 : run (env need28 (fun _ _ => none)) stop28 (finS spec28 Q) W 100000 (head28 x (.h0)).fr.enter (head28 x (.h0)).stk (head28 x (.h0)).H = (step28 x (.h0)).wp (kont W Q (head28 x)) := by kernel_rfl
end
theorem runs28 (W : Cfg) (Q : Bool → Prop) (x : (DO × ByteArray)) : ∀ j : J28, run (env need28 (fun _ _ => none)) stop28 (finS spec28 Q) W 100000 (head28 x j).fr.enter (head28 x j).stk (head28 x j).H = (step28 x j).wp (kont W Q (head28 x))
 | .h0 => run28h0 W Q x
theorem ok28 : SpecOk env0 28 spec28 := SpecOk.env rfl (fun _ _ h => h) (spec_of_trees (E := (env need28 (fun _ _ => none))) (sp := spec28) (valid _ _) (fun f sp h => SpecOk.env rfl (fun _ _ h => h) (need28_ok f sp h)) (fn := Tryz.f28) (c := (bodyOf Tryz.f28)) (by kernel_rfl) (by kernel_rfl) tree28 step28 head28 run28 runs28 (fun _ h => endVal_ends h))
end Go.Eng.RZ
end
section
/- Functions of this program, written out. -/
namespace Go.Eng.RZ
open Go.Proofs Go.Eng
inductive J8 where
 | h0 (v0 : (List Drow)) (v1 : Int)
noncomputable def tree8 (x : DI) : Tr (J8 ⊕ (Drow × Bool)) :=
  .ite ((ieq x.1 29) == false) (
 .ite ((ieq x.1 30) == false) (
 let y0 := x.2.1
 let y1 := ((ilt 15 y0) == false)
 .ite y1 (
 .ite ((!(ieq x.1 31)) == true) (
 .ite ((ine y0 0) == false) (
 let y2 := ((ine x.1 39) == true)
 .ite y2 (
 let y3 := (ine x.2.2.2.2.2.1 0)
 .ite y3 (
 let y4 : ((Int × (ByteArray × (ByteArray × (Int × ((List Int) × (Int × (Int × Int))))))) × Bool) := ((0, (ByteArray.empty, (ByteArray.empty, (0, (([] : List Int), (0, (0, 0))))))), false)
 .ret (.inr y4)) (
 let y5 : (Int × Int) := (x.1, y0)
 .need (pre26 y5) <|
 let y6 := (fn26 y5)
 .ret (.inl (.h0 y6 0)))) (
 let y7 : (Int × Int) := (x.1, y0)
 .need (pre26 y7) <|
 let y8 := (fn26 y7)
 .ret (.inl (.h0 y8 0)))) (
 let y9 : ((Int × (ByteArray × (ByteArray × (Int × ((List Int) × (Int × (Int × Int))))))) × Bool) := ((0, (ByteArray.empty, (ByteArray.empty, (0, (([] : List Int), (0, (0, 0))))))), false)
 .ret (.inr y9))) (
 let y10 := ((ine x.1 39) == true)
 .ite y10 (
 let y11 := (ine x.2.2.2.2.2.1 0)
 .ite y11 (
 let y12 : ((Int × (ByteArray × (ByteArray × (Int × ((List Int) × (Int × (Int × Int))))))) × Bool) := ((0, (ByteArray.empty, (ByteArray.empty, (0, (([] : List Int), (0, (0, 0))))))), false)
 .ret (.inr y12)) (
 let y13 : (Int × Int) := (x.1, y0)
 .need (pre26 y13) <|
 let y14 := (fn26 y13)
 .ret (.inl (.h0 y14 0)))) (
 let y15 : (Int × Int) := (x.1, y0)
 .need (pre26 y15) <|
 let y16 := (fn26 y15)
 .ret (.inl (.h0 y16 0))))) (
 let y17 : ((Int × (ByteArray × (ByteArray × (Int × ((List Int) × (Int × (Int × Int))))))) × Bool) := ((0, (ByteArray.empty, (ByteArray.empty, (0, (([] : List Int), (0, (0, 0))))))), false)
 .ret (.inr y17))) (
 let y18 := x.2.1
 let y19 := ((ilt 15 y18) == false)
 .ite y19 (
 let y20 := ((ine x.1 39) == true)
 .ite y20 (
 let y21 := (ine x.2.2.2.2.2.1 0)
 .ite y21 (
 let y22 : ((Int × (ByteArray × (ByteArray × (Int × ((List Int) × (Int × (Int × Int))))))) × Bool) := ((0, (ByteArray.empty, (ByteArray.empty, (0, (([] : List Int), (0, (0, 0))))))), false)
 .ret (.inr y22)) (
 let y23 : (Int × Int) := (x.1, y18)
 .need (pre26 y23) <|
 let y24 := (fn26 y23)
 .ret (.inl (.h0 y24 0)))) (
 let y25 : (Int × Int) := (x.1, y18)
 .need (pre26 y25) <|
 let y26 := (fn26 y25)
 .ret (.inl (.h0 y26 0)))) (
 let y27 : ((Int × (ByteArray × (ByteArray × (Int × ((List Int) × (Int × (Int × Int))))))) × Bool) := ((0, (ByteArray.empty, (ByteArray.empty, (0, (([] : List Int), (0, (0, 0))))))), false)
 .ret (.inr y27)))) (
 let y28 := x.2.1
 let y29 := ((ilt 15 y28) == false)
 .ite y29 (
 let y30 := ((ine x.1 39) == true)
 .ite y30 (
 let y31 := (ine x.2.2.2.2.2.1 0)
 .ite y31 (
 let y32 : ((Int × (ByteArray × (ByteArray × (Int × ((List Int) × (Int × (Int × Int))))))) × Bool) := ((0, (ByteArray.empty, (ByteArray.empty, (0, (([] : List Int), (0, (0, 0))))))), false)
 .ret (.inr y32)) (
 let y33 : (Int × Int) := (x.1, y28)
 .need (pre26 y33) <|
 let y34 := (fn26 y33)
 .ret (.inl (.h0 y34 0)))) (
 let y35 : (Int × Int) := (x.1, y28)
 .need (pre26 y35) <|
 let y36 := (fn26 y35)
 .ret (.inl (.h0 y36 0)))) (
 let y37 : ((Int × (ByteArray × (ByteArray × (Int × ((List Int) × (Int × (Int × Int))))))) × Bool) := ((0, (ByteArray.empty, (ByteArray.empty, (0, (([] : List Int), (0, (0, 0))))))), false)
 .ret (.inr y37)))
noncomputable def step8 (x : DI) : J8 → Tr (J8 ⊕ (Drow × Bool))
 | .h0 v0 v1 =>
 .ite (ilt v1 (v0.length : Int)) (
 .need ((0 : Int) ≤ v1) <|
 .need (v1 < (v0.length : Int)) <|
 let y0 := x.2.2
 let y1 : Drow := (rdc Crow v0 (v1).toNat)
 let y2 : (Int × Int) := (y0.1, y1.1)
 .need (pre27 y2) <|
 .ite ((fn27 y2) == true) (
 .need ((0 : Int) ≤ v1) <|
 .need (v1 < (v0.length : Int)) <|
 let y3 := y0.2
 let y4 := y1.2
 let y5 : (DO × ByteArray) := (y3.1, y4.1)
 .need (pre28 y5) <|
 .ite ((fn28 y5) == true) (
 .need ((0 : Int) ≤ v1) <|
 .need (v1 < (v0.length : Int)) <|
 let y6 : (DO × ByteArray) := (y3.2.1, y4.2.1)
 .need (pre28 y6) <|
 .ite (fn28 y6) (
 .need ((0 : Int) ≤ v1) <|
 .need (v1 < (v0.length : Int)) <|
 .ret (.inr (y1, true))) (
 let y7 : Int := (iadd .i64 v1 1)
 .ret (.inl (.h0 v0 y7)))) (
 let y8 : Int := (iadd .i64 v1 1)
 .ret (.inl (.h0 v0 y8)))) (
 let y9 : Int := (iadd .i64 v1 1)
 .ret (.inl (.h0 v0 y9)))) (
 .ret (.inr ((0, (ByteArray.empty, (ByteArray.empty, (0, (([] : List Int), (0, (0, 0))))))), false)))
noncomputable def head8 (x : DI) : J8 → Head
 | .h0 v0 v1 =>
 { fr := { id := 8, kind := .top, T := [.any, (.ptr 0 []), (.ptr 1 []), .any, .any, (.fsl Crow v0), (.int .i64 v1)] ++ List.replicate 80 .any, items := [.lp (subc [1, 1, 1, 1, 0, 1, 0, 0] (bodyOf Tryz.f8)), .blk 0, .code (subc [1, 1, 1, 1, 1] (bodyOf Tryz.f8))], D := [], base := 0 },
   stk := [],
   H := [.cell true 25 (.agg [1, 1, 1, 8, 8, 1, 1] [(.int .u8 x.1), (.int .u8 x.2.1), (.int .i64 x.2.2.1), (.agg [1, 1, 1, 1, 1, 1, 1, 1] [(.int .u8 x.2.2.2.1.1), (.int .i64 x.2.2.2.1.2.1), (.int .i64 x.2.2.2.1.2.2.1), (.int .i64 x.2.2.2.1.2.2.2.1), (.int .i64 x.2.2.2.1.2.2.2.2.1), (.int .i64 x.2.2.2.1.2.2.2.2.2.1), (.bool x.2.2.2.1.2.2.2.2.2.2.1), (.int .i64 x.2.2.2.1.2.2.2.2.2.2.2)]), (.agg [1, 1, 1, 1, 1, 1, 1, 1] [(.int .u8 x.2.2.2.2.1.1), (.int .i64 x.2.2.2.2.1.2.1), (.int .i64 x.2.2.2.2.1.2.2.1), (.int .i64 x.2.2.2.2.1.2.2.2.1), (.int .i64 x.2.2.2.2.1.2.2.2.2.1), (.int .i64 x.2.2.2.2.1.2.2.2.2.2.1), (.bool x.2.2.2.2.1.2.2.2.2.2.2.1), (.int .i64 x.2.2.2.2.1.2.2.2.2.2.2.2)]), (.int .u8 x.2.2.2.2.2.1), (.int .i64 x.2.2.2.2.2.2)]), .cell true 36 (.agg [1, 1, 1, 1, 1, 1, 1, 1] [(.int .i64 0), (.str ByteArray.empty), (.str ByteArray.empty), (.int .u8 0), (.raw (.slice none 0 0)), (.int .i64 0), (.int .i64 0), (.int .i64 0)])] }
noncomputable def stop8 : FuncId → Nat → Nat → Option Cut
  | 8, 0, 0 => some { tmps := [1, 2, 5, 6], loops := [], dead := [], stk := [] }
  | _, _, _ => none
noncomputable def fn8 (x : DI) : (Drow × Bool) := endVal (TC.dflt (.st Crow (.st1 .bool))) (step8 x) (tree8 x)
def pre8 (x : DI) : Prop := ∃ r, Ends (step8 x) r (tree8 x)
noncomputable def spec8 : Spec := { dom := (.st1 CInsn), cod := (.st Crow (.st1 .bool)), n := 2, pre := pre8, f := fn8 }
noncomputable def need8 : FuncId → Option Spec
  | 26 => some spec26
  | 27 => some spec27
  | 28 => some spec28
  | _ => none
theorem need8_ok : ∀ f sp, need8 f = some sp → SpecOk env0 f sp := by
  intro f sp h
  unfold need8 at h
  split at h
  · cases h; exact ok26
  · cases h; exact ok27
  · cases h; exact ok28
  · cases h
section
variable (W : Cfg) (Q : (Drow × Bool) → Prop) (x : DI)
theorem run8 : run (env need8 (fun _ _ => none)) stop8 (finS spec8 Q) W 100000 (startFr 8 Tryz.f8 (bodyOf Tryz.f8) (argsOf (.st1 CInsn) x)) [] [] = (tree8 x).wp (kont W Q (head8 x)) := by kernel_rfl
theorem run8h0 (v0 : (List Drow)) (v1 : Int) : run (env need8 (fun _ _ => none)) stop8 (finS spec8 Q) W 100000 (head8 x (.h0 v0 v1)).fr.enter (head8 x (.h0 v0 v1)).stk (head8 x (.h0 v0 v1)).H = (step8 x (.h0 v0 v1)).wp (kont W Q (head8 x)) := by kernel_rfl
end
theorem runs8 (W : Cfg) (Q : (Drow × Bool) → Prop) (x : DI) : ∀ j : J8, run (env need8 (fun _ _ => none)) stop8 (finS spec8 Q) W 100000 (head8 x j).fr.enter (head8 x j).stk (head8 x j).H = (step8 x j).wp (kont W Q (head8 x))
 | .h0 v0 v1 => run8h0 W Q x v0 v1
theorem ok8 : SpecOk env0 8 spec8 := SpecOk.env rfl (fun _ _ h => h) (spec_of_trees (E := (env need8 (fun _ _ => none))) (sp := spec8) (valid _ _) (fun f sp h => SpecOk.env rfl (fun _ _ h => h) (need8_ok f sp h)) (fn := Tryz.f8) (c := (bodyOf Tryz.f8)) (by kernel_rfl) (by kernel_rfl) tree8 step8 head8 run8 runs8 (fun _ h => endVal_ends h))
noncomputable def tree4 (x : DI) : Tr Bool :=
  .need (pre8 x) <|
  .ret (fn8 x).2
noncomputable def fn4 (x : DI) : Bool := (tree4 x).val
def pre4 (x : DI) : Prop := (tree4 x).ok
noncomputable def spec4 : Spec := { dom := (.st1 CInsn), cod := .bool, n := 1, pre := pre4, f := fn4 }
noncomputable def need4 : FuncId → Option Spec
  | 8 => some spec8
  | _ => none
theorem need4_ok : ∀ f sp, need4 f = some sp → SpecOk env0 f sp := by
  intro f sp h
  unfold need4 at h
  split at h
  · cases h; exact ok8
  · cases h
section
variable (W : Cfg) (Q : Bool → Prop) (x : DI)
theorem run4 : run (env need4 (fun _ _ => none)) (fun _ _ _ => none) (finS spec4 Q) W 100000 (startFr 4 Tryz.f4 (bodyOf Tryz.f4) (argsOf (.st1 CInsn) x)) [] [] = (tree4 x).wp Q := by kernel_rfl
end
theorem ok4 : SpecOk env0 4 spec4 := SpecOk.env rfl (fun _ _ h => h) (spec_of_tree (E := (env need4 (fun _ _ => none))) (sp := spec4) (valid _ _) (fun f sp h => SpecOk.env rfl (fun _ _ h => h) (need4_ok f sp h)) (fn := Tryz.f4) (c := (bodyOf Tryz.f4)) (by kernel_rfl) (by kernel_rfl) tree4 run4 (fun _ h => Tr.gives_val h))
inductive J68 where
 | h0 (v2 : Int) (v3 : Int)
noncomputable def tree68 (x : ((List Int) × Int)) : Tr (J68 ⊕ Int) :=
  .ret (.inl (.h0 (x.1.length : Int) 0))
noncomputable def step68 (x : ((List Int) × Int)) : J68 → Tr (J68 ⊕ Int)
 | .h0 v2 v3 =>
 .ite (ilt v3 v2) (
 .need ((0 : Int) ≤ v3) <|
 .need (v3 < (x.1.length : Int)) <|
 .ite (ieq x.2 (rdc (.int .u8) x.1 (v3).toNat)) (
 .ret (.inr v3)) (
 .ret (.inl (.h0 v2 (iadd .i64 v3 1))))) (
 .ret (.inr (-1)))
noncomputable def head68 (x : ((List Int) × Int)) : J68 → Head
 | .h0 v2 v3 =>
 { fr := { id := 68, kind := .top, T := [(.fsl (.int .u8) x.1), (.int .u8 x.2)] ++ List.replicate 5 .any ++ [(.int .i64 v2), (.int .i64 v3)] ++ List.replicate 10 .any, items := [.lp (subc [1, 0, 1, 0, 0] (bodyOf Tryz.f68)), .blk 0, .code (subc [1, 1] (bodyOf Tryz.f68))], D := [], base := 0 },
   stk := [],
   H := [] }
noncomputable def stop68 : FuncId → Nat → Nat → Option Cut
  | 68, 0, 0 => some { tmps := [0, 1, 7, 8], loops := [], dead := [], stk := [] }
  | _, _, _ => none
noncomputable def fn68 (x : ((List Int) × Int)) : Int := endVal (TC.dflt (.int .i64)) (step68 x) (tree68 x)
def pre68 (x : ((List Int) × Int)) : Prop := ∃ r, Ends (step68 x) r (tree68 x)
noncomputable def spec68 : Spec := { dom := (.st (.slice (.int .u8)) (.st1 (.int .u8))), cod := (.int .i64), n := 1, pre := pre68, f := fn68 }
noncomputable def need68 : FuncId → Option Spec
  | _ => none
theorem need68_ok : ∀ f sp, need68 f = some sp → SpecOk env0 f sp := by
  intro f sp h
  unfold need68 at h
  split at h
  · cases h
section
variable (W : Cfg) (Q : Int → Prop) (x : ((List Int) × Int))
theorem run68 : run (env need68 (fun _ _ => none)) stop68 (finS spec68 Q) W 100000 (startFr 68 Tryz.f68 (bodyOf Tryz.f68) (argsOf (.st (.slice (.int .u8)) (.st1 (.int .u8))) x)) [] [] = (tree68 x).wp (kont W Q (head68 x)) := by kernel_rfl
theorem run68h0 (v2 v3 : Int) : run (env need68 (fun _ _ => none)) stop68 (finS spec68 Q) W 100000 (head68 x (.h0 v2 v3)).fr.enter (head68 x (.h0 v2 v3)).stk (head68 x (.h0 v2 v3)).H = (step68 x (.h0 v2 v3)).wp (kont W Q (head68 x)) := by kernel_rfl
end
theorem runs68 (W : Cfg) (Q : Int → Prop) (x : ((List Int) × Int)) : ∀ j : J68, run (env need68 (fun _ _ => none)) stop68 (finS spec68 Q) W 100000 (head68 x j).fr.enter (head68 x j).stk (head68 x j).H = (step68 x j).wp (kont W Q (head68 x))
 | .h0 v2 v3 => run68h0 W Q x v2 v3
theorem ok68 : SpecOk env0 68 spec68 := SpecOk.env rfl (fun _ _ h => h) (spec_of_trees (E := (env need68 (fun _ _ => none))) (sp := spec68) (valid _ _) (fun f sp h => SpecOk.env rfl (fun _ _ h => h) (need68_ok f sp h)) (fn := Tryz.f68) (c := (bodyOf Tryz.f68)) (by kernel_rfl) (by kernel_rfl) tree68 step68 head68 run68 runs68 (fun _ h => endVal_ends h))
noncomputable def tree52 (x : Int) : Tr DO :=
  .ret (1, (x, ((-1), ((-1), (0, (0, (false, 0)))))))
noncomputable def fn52 (x : Int) : DO := (tree52 x).val
def pre52 (x : Int) : Prop := (tree52 x).ok
noncomputable def spec52 : Spec := { dom := (.st1 (.int .i64)), cod := CO, n := 1, pre := pre52, f := fn52 }
noncomputable def need52 : FuncId → Option Spec
  | _ => none
theorem need52_ok : ∀ f sp, need52 f = some sp → SpecOk env0 f sp := by
  intro f sp h
  unfold need52 at h
  split at h
  · cases h
section
variable (W : Cfg) (Q : DO → Prop) (x : Int)
theorem run52 : run (env need52 (fun _ _ => none)) (fun _ _ _ => none) (finS spec52 Q) W 100000 (startFr 52 Tryz.f52 (bodyOf Tryz.f52) (argsOf (.st1 (.int .i64)) x)) [] [] = (tree52 x).wp Q := by kernel_rfl
end
theorem ok52 : SpecOk env0 52 spec52 := SpecOk.env rfl (fun _ _ h => h) (spec_of_tree (E := (env need52 (fun _ _ => none))) (sp := spec52) (valid _ _) (fun f sp h => SpecOk.env rfl (fun _ _ h => h) (need52_ok f sp h)) (fn := Tryz.f52) (c := (bodyOf Tryz.f52)) (by kernel_rfl) (by kernel_rfl) tree52 run52 (fun _ h => Tr.gives_val h))
noncomputable def tree53 (x : DO) : Tr Bool :=
  let y0 : (Int × (Int × (Int × (Bool × Int)))) := x.2.2.2
  .ite (ilt y0.1 0) (
 let y1 := y0.2.1
 .ret (ieq y1 1)) (
 let y2 := y0.2.1
 .ite ((ile 1 y2) == true) (
 .ite ((ile y2 8) == true) (
 .ret (ieq (iand .i64 y2 (isub .i64 y2 1)) 0)) (
 .ret false)) (
 .ret false))
noncomputable def fn53 (x : DO) : Bool := (tree53 x).val
def pre53 (x : DO) : Prop := (tree53 x).ok
noncomputable def spec53 : Spec := { dom := (.st1 CO), cod := .bool, n := 1, pre := pre53, f := fn53 }
noncomputable def need53 : FuncId → Option Spec
  | _ => none
theorem need53_ok : ∀ f sp, need53 f = some sp → SpecOk env0 f sp := by
  intro f sp h
  unfold need53 at h
  split at h
  · cases h
section
variable (W : Cfg) (Q : Bool → Prop) (x : DO)
theorem run53 : run (env need53 (fun _ _ => none)) (fun _ _ _ => none) (finS spec53 Q) W 100000 (startFr 53 Tryz.f53 (bodyOf Tryz.f53) (argsOf (.st1 CO) x)) [] [] = (tree53 x).wp Q := by kernel_rfl
end
theorem ok53 : SpecOk env0 53 spec53 := SpecOk.env rfl (fun _ _ h => h) (spec_of_tree (E := (env need53 (fun _ _ => none))) (sp := spec53) (valid _ _) (fun f sp h => SpecOk.env rfl (fun _ _ h => h) (need53_ok f sp h)) (fn := Tryz.f53) (c := (bodyOf Tryz.f53)) (by kernel_rfl) (by kernel_rfl) tree53 run53 (fun _ h => Tr.gives_val h))
noncomputable def tree30 (x : DO) : Tr Bool :=
  .ite (ieq x.1 1) (
 let y0 := x.2.1
 .ite ((ile 0 y0) == true) (
 .ite ((ilt y0 16) == true) (
 .need (pre52 y0) <|
 .ret (eqD CO x (fn52 y0))) (
 .ret false)) (
 .ret false)) (
 .ite ((ine x.1 2) == false) (
 let y1 := x.2.1
 .ite ((ine y1 0) == false) (
 let y2 := x.2.2
 let y3 := y2.2
 let y4 := y3.2
 let y5 := y4.2
 let y6 := y5.2
 .ite ((ine y6.2 0) == false) (
 let y7 := y5.1
 .ite (ine (iconv .i64 (iconv .i32 y7)) y7) (
 .ret false) (
 .ite y6.1 (
 let y8 := y2.1
 .ite ((ieq y8 (-1)) == true) (
 let y9 := y3.1
 .ite ((ieq y9 (-1)) == true) (
 .ret (ieq y4.1 1)) (
 .ret false)) (
 .ret false)) (
 let y10 := y2.1
 .ite ((ile (-1) y10) == true) (
 .ite ((ilt y10 16) == true) (
 let y11 := y3.1
 .ite ((ile (-1) y11) == true) (
 .ite ((ilt y11 16) == true) (
 .ite ((ine y11 4) == true) (
 .need (pre53 x) <|
 .ret (fn53 x)) (
 .ret false)) (
 .ret false)) (
 .ret false)) (
 .ret false)) (
 .ret false)))) (
 .ret false)) (
 .ret false)) (
 .ret false))
noncomputable def fn30 (x : DO) : Bool := (tree30 x).val
def pre30 (x : DO) : Prop := (tree30 x).ok
noncomputable def spec30 : Spec := { dom := (.st1 CO), cod := .bool, n := 1, pre := pre30, f := fn30 }
noncomputable def need30 : FuncId → Option Spec
  | 52 => some spec52
  | 53 => some spec53
  | _ => none
theorem need30_ok : ∀ f sp, need30 f = some sp → SpecOk env0 f sp := by
  intro f sp h
  unfold need30 at h
  split at h
  · cases h; exact ok52
  · cases h; exact ok53
  · cases h
section
variable (W : Cfg) (Q : Bool → Prop) (x : DO)
theorem run30 : run (env need30 (fun _ _ => none)) (fun _ _ _ => none) (finS spec30 Q) W 100000 (startFr 30 Tryz.f30 (bodyOf Tryz.f30) (argsOf (.st1 CO) x)) [] [] = (tree30 x).wp Q := by kernel_rfl
end
theorem ok30 : SpecOk env0 30 spec30 := SpecOk.env rfl (fun _ _ h => h) (spec_of_tree (E := (env need30 (fun _ _ => none))) (sp := spec30) (valid _ _) (fun f sp h => SpecOk.env rfl (fun _ _ h => h) (need30_ok f sp h)) (fn := Tryz.f30) (c := (bodyOf Tryz.f30)) (by kernel_rfl) (by kernel_rfl) tree30 run30 (fun _ h => Tr.gives_val h))
noncomputable def tree70 (x : DO) : Tr Bool :=
  .need (pre30 x) <|
  .ret (fn30 x)
noncomputable def fn70 (x : DO) : Bool := (tree70 x).val
def pre70 (x : DO) : Prop := (tree70 x).ok
noncomputable def spec70 : Spec := { dom := (.st1 CO), cod := .bool, n := 1, pre := pre70, f := fn70 }
noncomputable def need70 : FuncId → Option Spec
  | 30 => some spec30
  | _ => none
theorem need70_ok : ∀ f sp, need70 f = some sp → SpecOk env0 f sp := by
  intro f sp h
  unfold need70 at h
  split at h
  · cases h; exact ok30
  · cases h
section
variable (W : Cfg) (Q : Bool → Prop) (x : DO)
theorem run70 : run (env need70 (fun _ _ => none)) (fun _ _ _ => none) (finS spec70 Q) W 100000 (startFr 70 Tryz.f70 (bodyOf Tryz.f70) (argsOf (.st1 CO) x)) [] [] = (tree70 x).wp Q := by kernel_rfl
end
theorem ok70 : SpecOk env0 70 spec70 := SpecOk.env rfl (fun _ _ h => h) (spec_of_tree (E := (env need70 (fun _ _ => none))) (sp := spec70) (valid _ _) (fun f sp h => SpecOk.env rfl (fun _ _ h => h) (need70_ok f sp h)) (fn := Tryz.f70) (c := (bodyOf Tryz.f70)) (by kernel_rfl) (by kernel_rfl) tree70 run70 (fun _ h => Tr.gives_val h))
noncomputable def tree71 (x : DO) : Tr Bool :=
  .ite ((ieq x.1 1) == true) (
 .need (pre30 x) <|
 .ret (fn30 x)) (
 .ret false)
noncomputable def fn71 (x : DO) : Bool := (tree71 x).val
def pre71 (x : DO) : Prop := (tree71 x).ok
noncomputable def spec71 : Spec := { dom := (.st1 CO), cod := .bool, n := 1, pre := pre71, f := fn71 }
noncomputable def need71 : FuncId → Option Spec
  | 30 => some spec30
  | _ => none
theorem need71_ok : ∀ f sp, need71 f = some sp → SpecOk env0 f sp := by
  intro f sp h
  unfold need71 at h
  split at h
  · cases h; exact ok30
  · cases h
section
variable (W : Cfg) (Q : Bool → Prop) (x : DO)
theorem run71 : run (env need71 (fun _ _ => none)) (fun _ _ _ => none) (finS spec71 Q) W 100000 (startFr 71 Tryz.f71 (bodyOf Tryz.f71) (argsOf (.st1 CO) x)) [] [] = (tree71 x).wp Q := by kernel_rfl
end
theorem ok71 : SpecOk env0 71 spec71 := SpecOk.env rfl (fun _ _ h => h) (spec_of_tree (E := (env need71 (fun _ _ => none))) (sp := spec71) (valid _ _) (fun f sp h => SpecOk.env rfl (fun _ _ h => h) (need71_ok f sp h)) (fn := Tryz.f71) (c := (bodyOf Tryz.f71)) (by kernel_rfl) (by kernel_rfl) tree71 run71 (fun _ h => Tr.gives_val h))
noncomputable def tree72 (x : DO) : Tr Bool :=
  .ite ((ieq x.1 2) == true) (
 .need (pre30 x) <|
 .ret (fn30 x)) (
 .ret false)
noncomputable def fn72 (x : DO) : Bool := (tree72 x).val
def pre72 (x : DO) : Prop := (tree72 x).ok
noncomputable def spec72 : Spec := { dom := (.st1 CO), cod := .bool, n := 1, pre := pre72, f := fn72 }
noncomputable def need72 : FuncId → Option Spec
  | 30 => some spec30
  | _ => none
theorem need72_ok : ∀ f sp, need72 f = some sp → SpecOk env0 f sp := by
  intro f sp h
  unfold need72 at h
  split at h
  · cases h; exact ok30
  · cases h
section
variable (W : Cfg) (Q : Bool → Prop) (x : DO)
theorem run72 : run (env need72 (fun _ _ => none)) (fun _ _ _ => none) (finS spec72 Q) W 100000 (startFr 72 Tryz.f72 (bodyOf Tryz.f72) (argsOf (.st1 CO) x)) [] [] = (tree72 x).wp Q := by kernel_rfl
end
theorem ok72 : SpecOk env0 72 spec72 := SpecOk.env rfl (fun _ _ h => h) (spec_of_tree (E := (env need72 (fun _ _ => none))) (sp := spec72) (valid _ _) (fun f sp h => SpecOk.env rfl (fun _ _ h => h) (need72_ok f sp h)) (fn := Tryz.f72) (c := (bodyOf Tryz.f72)) (by kernel_rfl) (by kernel_rfl) tree72 run72 (fun _ h => Tr.gives_val h))
noncomputable def tree12 (x : Int) : Tr DO :=
  .ret (3, (0, ((-1), ((-1), (0, (0, (false, x)))))))
noncomputable def fn12 (x : Int) : DO := (tree12 x).val
def pre12 (x : Int) : Prop := (tree12 x).ok
noncomputable def spec12 : Spec := { dom := (.st1 (.int .i64)), cod := CO, n := 1, pre := pre12, f := fn12 }
noncomputable def need12 : FuncId → Option Spec
  | _ => none
theorem need12_ok : ∀ f sp, need12 f = some sp → SpecOk env0 f sp := by
  intro f sp h
  unfold need12 at h
  split at h
  · cases h
section
variable (W : Cfg) (Q : DO → Prop) (x : Int)
theorem run12 : run (env need12 (fun _ _ => none)) (fun _ _ _ => none) (finS spec12 Q) W 100000 (startFr 12 Tryz.f12 (bodyOf Tryz.f12) (argsOf (.st1 (.int .i64)) x)) [] [] = (tree12 x).wp Q := by kernel_rfl
end
theorem ok12 : SpecOk env0 12 spec12 := SpecOk.env rfl (fun _ _ h => h) (spec_of_tree (E := (env need12 (fun _ _ => none))) (sp := spec12) (valid _ _) (fun f sp h => SpecOk.env rfl (fun _ _ h => h) (need12_ok f sp h)) (fn := Tryz.f12) (c := (bodyOf Tryz.f12)) (by kernel_rfl) (by kernel_rfl) tree12 run12 (fun _ h => Tr.gives_val h))
noncomputable def tree107 (x : DO) : Tr Bool :=
  .ite ((ieq x.1 3) == true) (
 let y0 := x.2.2.2.2.2.2.2
 .need (pre12 y0) <|
 .ret (eqD CO x (fn12 y0))) (
 .ret false)
noncomputable def fn107 (x : DO) : Bool := (tree107 x).val
def pre107 (x : DO) : Prop := (tree107 x).ok
noncomputable def spec107 : Spec := { dom := (.st1 CO), cod := .bool, n := 1, pre := pre107, f := fn107 }
noncomputable def need107 : FuncId → Option Spec
  | 12 => some spec12
  | _ => none
theorem need107_ok : ∀ f sp, need107 f = some sp → SpecOk env0 f sp := by
  intro f sp h
  unfold need107 at h
  split at h
  · cases h; exact ok12
  · cases h
section
variable (W : Cfg) (Q : Bool → Prop) (x : DO)
theorem run107 : run (env need107 (fun _ _ => none)) (fun _ _ _ => none) (finS spec107 Q) W 100000 (startFr 107 Tryz.f107 (bodyOf Tryz.f107) (argsOf (.st1 CO) x)) [] [] = (tree107 x).wp Q := by kernel_rfl
end
theorem ok107 : SpecOk env0 107 spec107 := SpecOk.env rfl (fun _ _ h => h) (spec_of_tree (E := (env need107 (fun _ _ => none))) (sp := spec107) (valid _ _) (fun f sp h => SpecOk.env rfl (fun _ _ h => h) (need107_ok f sp h)) (fn := Tryz.f107) (c := (bodyOf Tryz.f107)) (by kernel_rfl) (by kernel_rfl) tree107 run107 (fun _ h => Tr.gives_val h))
noncomputable def tree73 (x : DO) : Tr Bool :=
  .need (pre107 x) <|
  .ite ((fn107 x) == true) (
 let y0 := x.2.2.2.2.2.2.2
 .ret (ieq (iconv .i64 (iconv .i8 y0)) y0)) (
 .ret false)
noncomputable def fn73 (x : DO) : Bool := (tree73 x).val
def pre73 (x : DO) : Prop := (tree73 x).ok
noncomputable def spec73 : Spec := { dom := (.st1 CO), cod := .bool, n := 1, pre := pre73, f := fn73 }
noncomputable def need73 : FuncId → Option Spec
  | 107 => some spec107
  | _ => none
theorem need73_ok : ∀ f sp, need73 f = some sp → SpecOk env0 f sp := by
  intro f sp h
  unfold need73 at h
  split at h
  · cases h; exact ok107
  · cases h
section
variable (W : Cfg) (Q : Bool → Prop) (x : DO)
theorem run73 : run (env need73 (fun _ _ => none)) (fun _ _ _ => none) (finS spec73 Q) W 100000 (startFr 73 Tryz.f73 (bodyOf Tryz.f73) (argsOf (.st1 CO) x)) [] [] = (tree73 x).wp Q := by kernel_rfl
end
theorem ok73 : SpecOk env0 73 spec73 := SpecOk.env rfl (fun _ _ h => h) (spec_of_tree (E := (env need73 (fun _ _ => none))) (sp := spec73) (valid _ _) (fun f sp h => SpecOk.env rfl (fun _ _ h => h) (need73_ok f sp h)) (fn := Tryz.f73) (c := (bodyOf Tryz.f73)) (by kernel_rfl) (by kernel_rfl) tree73 run73 (fun _ h => Tr.gives_val h))
noncomputable def tree74 (x : DO) : Tr Bool :=
  .need (pre107 x) <|
  .ite ((fn107 x) == true) (
 let y0 := x.2.2.2.2.2.2.2
 .ret (ieq (iconv .i64 (iconv .i32 y0)) y0)) (
 .ret false)
noncomputable def fn74 (x : DO) : Bool := (tree74 x).val
def pre74 (x : DO) : Prop := (tree74 x).ok
noncomputable def spec74 : Spec := { dom := (.st1 CO), cod := .bool, n := 1, pre := pre74, f := fn74 }
noncomputable def need74 : FuncId → Option Spec
  | 107 => some spec107
  | _ => none
theorem need74_ok : ∀ f sp, need74 f = some sp → SpecOk env0 f sp := by
  intro f sp h
  unfold need74 at h
  split at h
  · cases h; exact ok107
  · cases h
section
variable (W : Cfg) (Q : Bool → Prop) (x : DO)
theorem run74 : run (env need74 (fun _ _ => none)) (fun _ _ _ => none) (finS spec74 Q) W 100000 (startFr 74 Tryz.f74 (bodyOf Tryz.f74) (argsOf (.st1 CO) x)) [] [] = (tree74 x).wp Q := by kernel_rfl
end
theorem ok74 : SpecOk env0 74 spec74 := SpecOk.env rfl (fun _ _ h => h) (spec_of_tree (E := (env need74 (fun _ _ => none))) (sp := spec74) (valid _ _) (fun f sp h => SpecOk.env rfl (fun _ _ h => h) (need74_ok f sp h)) (fn := Tryz.f74) (c := (bodyOf Tryz.f74)) (by kernel_rfl) (by kernel_rfl) tree74 run74 (fun _ h => Tr.gives_val h))
noncomputable def tree13 (x : Int) : Tr DO :=
  .ret (1, ((iadd .i64 (iand .i64 x 15) 16), ((-1), ((-1), (0, (0, (false, 0)))))))
noncomputable def fn13 (x : Int) : DO := (tree13 x).val
def pre13 (x : Int) : Prop := (tree13 x).ok
noncomputable def spec13 : Spec := { dom := (.st1 (.int .i64)), cod := CO, n := 1, pre := pre13, f := fn13 }
noncomputable def need13 : FuncId → Option Spec
  | _ => none
theorem need13_ok : ∀ f sp, need13 f = some sp → SpecOk env0 f sp := by
  intro f sp h
  unfold need13 at h
  split at h
  · cases h
section
variable (W : Cfg) (Q : DO → Prop) (x : Int)
theorem run13 : run (env need13 (fun _ _ => none)) (fun _ _ _ => none) (finS spec13 Q) W 100000 (startFr 13 Tryz.f13 (bodyOf Tryz.f13) (argsOf (.st1 (.int .i64)) x)) [] [] = (tree13 x).wp Q := by kernel_rfl
end
theorem ok13 : SpecOk env0 13 spec13 := SpecOk.env rfl (fun _ _ h => h) (spec_of_tree (E := (env need13 (fun _ _ => none))) (sp := spec13) (valid _ _) (fun f sp h => SpecOk.env rfl (fun _ _ h => h) (need13_ok f sp h)) (fn := Tryz.f13) (c := (bodyOf Tryz.f13)) (by kernel_rfl) (by kernel_rfl) tree13 run13 (fun _ h => Tr.gives_val h))
noncomputable def tree77 (x : DO) : Tr Bool :=
  .ite ((ieq x.1 1) == true) (
 let y0 := x.2.1
 .ite ((ieq (iandn .i64 y0 15) 16) == true) (
 .need (pre13 y0) <|
 .ret (eqD CO x (fn13 y0))) (
 .ret false)) (
 .ret false)
noncomputable def fn77 (x : DO) : Bool := (tree77 x).val
def pre77 (x : DO) : Prop := (tree77 x).ok
noncomputable def spec77 : Spec := { dom := (.st1 CO), cod := .bool, n := 1, pre := pre77, f := fn77 }
noncomputable def need77 : FuncId → Option Spec
  | 13 => some spec13
  | _ => none
theorem need77_ok : ∀ f sp, need77 f = some sp → SpecOk env0 f sp := by
  intro f sp h
  unfold need77 at h
  split at h
  · cases h; exact ok13
  · cases h
section
variable (W : Cfg) (Q : Bool → Prop) (x : DO)
theorem run77 : run (env need77 (fun _ _ => none)) (fun _ _ _ => none) (finS spec77 Q) W 100000 (startFr 77 Tryz.f77 (bodyOf Tryz.f77) (argsOf (.st1 CO) x)) [] [] = (tree77 x).wp Q := by kernel_rfl
end
theorem ok77 : SpecOk env0 77 spec77 := SpecOk.env rfl (fun _ _ h => h) (spec_of_tree (E := (env need77 (fun _ _ => none))) (sp := spec77) (valid _ _) (fun f sp h => SpecOk.env rfl (fun _ _ h => h) (need77_ok f sp h)) (fn := Tryz.f77) (c := (bodyOf Tryz.f77)) (by kernel_rfl) (by kernel_rfl) tree77 run77 (fun _ h => Tr.gives_val h))
noncomputable def tree78 (x : DO) : Tr Bool :=
  .need (pre77 x) <|
  .ite ((fn77 x) == false) (
 .need (pre72 x) <|
 .ret (fn72 x)) (
 .ret true)
noncomputable def fn78 (x : DO) : Bool := (tree78 x).val
def pre78 (x : DO) : Prop := (tree78 x).ok
noncomputable def spec78 : Spec := { dom := (.st1 CO), cod := .bool, n := 1, pre := pre78, f := fn78 }
noncomputable def need78 : FuncId → Option Spec
  | 72 => some spec72
  | 77 => some spec77
  | _ => none
theorem need78_ok : ∀ f sp, need78 f = some sp → SpecOk env0 f sp := by
  intro f sp h
  unfold need78 at h
  split at h
  · cases h; exact ok72
  · cases h; exact ok77
  · cases h
section
variable (W : Cfg) (Q : Bool → Prop) (x : DO)
theorem run78 : run (env need78 (fun _ _ => none)) (fun _ _ _ => none) (finS spec78 Q) W 100000 (startFr 78 Tryz.f78 (bodyOf Tryz.f78) (argsOf (.st1 CO) x)) [] [] = (tree78 x).wp Q := by kernel_rfl
end
theorem ok78 : SpecOk env0 78 spec78 := SpecOk.env rfl (fun _ _ h => h) (spec_of_tree (E := (env need78 (fun _ _ => none))) (sp := spec78) (valid _ _) (fun f sp h => SpecOk.env rfl (fun _ _ h => h) (need78_ok f sp h)) (fn := Tryz.f78) (c := (bodyOf Tryz.f78)) (by kernel_rfl) (by kernel_rfl) tree78 run78 (fun _ h => Tr.gives_val h))
noncomputable def tree80 (x : DO) : Tr Bool :=
  .need (pre107 x) <|
  .ite ((fn107 x) == true) (
 let y0 := x.2.2.2.2.2.2.2
 .ret (ieq (iconv .i64 (iconv .u8 y0)) y0)) (
 .ret false)
noncomputable def fn80 (x : DO) : Bool := (tree80 x).val
def pre80 (x : DO) : Prop := (tree80 x).ok
noncomputable def spec80 : Spec := { dom := (.st1 CO), cod := .bool, n := 1, pre := pre80, f := fn80 }
noncomputable def need80 : FuncId → Option Spec
  | 107 => some spec107
  | _ => none
theorem need80_ok : ∀ f sp, need80 f = some sp → SpecOk env0 f sp := by
  intro f sp h
  unfold need80 at h
  split at h
  · cases h; exact ok107
  · cases h
section
variable (W : Cfg) (Q : Bool → Prop) (x : DO)
theorem run80 : run (env need80 (fun _ _ => none)) (fun _ _ _ => none) (finS spec80 Q) W 100000 (startFr 80 Tryz.f80 (bodyOf Tryz.f80) (argsOf (.st1 CO) x)) [] [] = (tree80 x).wp Q := by kernel_rfl
end
theorem ok80 : SpecOk env0 80 spec80 := SpecOk.env rfl (fun _ _ h => h) (spec_of_tree (E := (env need80 (fun _ _ => none))) (sp := spec80) (valid _ _) (fun f sp h => SpecOk.env rfl (fun _ _ h => h) (need80_ok f sp h)) (fn := Tryz.f80) (c := (bodyOf Tryz.f80)) (by kernel_rfl) (by kernel_rfl) tree80 run80 (fun _ h => Tr.gives_val h))
noncomputable def tree81 (x : DO) : Tr Bool :=
  .need (pre52 1) <|
  .ret (eqD CO x (fn52 1))
noncomputable def fn81 (x : DO) : Bool := (tree81 x).val
def pre81 (x : DO) : Prop := (tree81 x).ok
noncomputable def spec81 : Spec := { dom := (.st1 CO), cod := .bool, n := 1, pre := pre81, f := fn81 }
noncomputable def need81 : FuncId → Option Spec
  | 52 => some spec52
  | _ => none
theorem need81_ok : ∀ f sp, need81 f = some sp → SpecOk env0 f sp := by
  intro f sp h
  unfold need81 at h
  split at h
  · cases h; exact ok52
  · cases h
section
variable (W : Cfg) (Q : Bool → Prop) (x : DO)
theorem run81 : run (env need81 (fun _ _ => none)) (fun _ _ _ => none) (finS spec81 Q) W 100000 (startFr 81 Tryz.f81 (bodyOf Tryz.f81) (argsOf (.st1 CO) x)) [] [] = (tree81 x).wp Q := by kernel_rfl
end
theorem ok81 : SpecOk env0 81 spec81 := SpecOk.env rfl (fun _ _ h => h) (spec_of_tree (E := (env need81 (fun _ _ => none))) (sp := spec81) (valid _ _) (fun f sp h => SpecOk.env rfl (fun _ _ h => h) (need81_ok f sp h)) (fn := Tryz.f81) (c := (bodyOf Tryz.f81)) (by kernel_rfl) (by kernel_rfl) tree81 run81 (fun _ h => Tr.gives_val h))
noncomputable def tree95 (x : DO) : Tr Bool :=
  .ret (eqD CO x (0, (0, (0, (0, (0, (0, (false, 0))))))))
noncomputable def fn95 (x : DO) : Bool := (tree95 x).val
def pre95 (x : DO) : Prop := (tree95 x).ok
noncomputable def spec95 : Spec := { dom := (.st1 CO), cod := .bool, n := 1, pre := pre95, f := fn95 }
noncomputable def need95 : FuncId → Option Spec
  | _ => none
theorem need95_ok : ∀ f sp, need95 f = some sp → SpecOk env0 f sp := by
  intro f sp h
  unfold need95 at h
  split at h
  · cases h
section
variable (W : Cfg) (Q : Bool → Prop) (x : DO)
theorem run95 : run (env need95 (fun _ _ => none)) (fun _ _ _ => none) (finS spec95 Q) W 100000 (startFr 95 Tryz.f95 (bodyOf Tryz.f95) (argsOf (.st1 CO) x)) [] [] = (tree95 x).wp Q := by kernel_rfl
end
theorem ok95 : SpecOk env0 95 spec95 := SpecOk.env rfl (fun _ _ h => h) (spec_of_tree (E := (env need95 (fun _ _ => none))) (sp := spec95) (valid _ _) (fun f sp h => SpecOk.env rfl (fun _ _ h => h) (need95_ok f sp h)) (fn := Tryz.f95) (c := (bodyOf Tryz.f95)) (by kernel_rfl) (by kernel_rfl) tree95 run95 (fun _ h => Tr.gives_val h))
inductive J105 where
 | h0 (v2 : Int) (v3 : Int)
noncomputable def tree105 (x : ((List Int) × Int)) : Tr (J105 ⊕ Int) :=
  .ret (.inl (.h0 (x.1.length : Int) 0))
noncomputable def step105 (x : ((List Int) × Int)) : J105 → Tr (J105 ⊕ Int)
 | .h0 v2 v3 =>
 .ite (ilt v3 v2) (
 .need ((0 : Int) ≤ v3) <|
 .need (v3 < (x.1.length : Int)) <|
 .ite (ieq x.2 (rdc (.int .i64) x.1 (v3).toNat)) (
 .ret (.inr v3)) (
 .ret (.inl (.h0 v2 (iadd .i64 v3 1))))) (
 .ret (.inr (-1)))
noncomputable def head105 (x : ((List Int) × Int)) : J105 → Head
 | .h0 v2 v3 =>
 { fr := { id := 105, kind := .top, T := [(.fsl (.int .i64) x.1), (.int .i64 x.2)] ++ List.replicate 5 .any ++ [(.int .i64 v2), (.int .i64 v3)] ++ List.replicate 10 .any, items := [.lp (subc [1, 0, 1, 0, 0] (bodyOf Tryz.f105)), .blk 0, .code (subc [1, 1] (bodyOf Tryz.f105))], D := [], base := 0 },
   stk := [],
   H := [] }
noncomputable def stop105 : FuncId → Nat → Nat → Option Cut
  | 105, 0, 0 => some { tmps := [0, 1, 7, 8], loops := [], dead := [], stk := [] }
  | _, _, _ => none
noncomputable def fn105 (x : ((List Int) × Int)) : Int := endVal (TC.dflt (.int .i64)) (step105 x) (tree105 x)
def pre105 (x : ((List Int) × Int)) : Prop := ∃ r, Ends (step105 x) r (tree105 x)
noncomputable def spec105 : Spec := { dom := (.st (.slice (.int .i64)) (.st1 (.int .i64))), cod := (.int .i64), n := 1, pre := pre105, f := fn105 }
noncomputable def need105 : FuncId → Option Spec
  | _ => none
theorem need105_ok : ∀ f sp, need105 f = some sp → SpecOk env0 f sp := by
  intro f sp h
  unfold need105 at h
  split at h
  · cases h
section
variable (W : Cfg) (Q : Int → Prop) (x : ((List Int) × Int))
theorem run105 : run (env need105 (fun _ _ => none)) stop105 (finS spec105 Q) W 100000 (startFr 105 Tryz.f105 (bodyOf Tryz.f105) (argsOf (.st (.slice (.int .i64)) (.st1 (.int .i64))) x)) [] [] = (tree105 x).wp (kont W Q (head105 x)) := by kernel_rfl
theorem run105h0 (v2 v3 : Int) : run (env need105 (fun _ _ => none)) stop105 (finS spec105 Q) W 100000 (head105 x (.h0 v2 v3)).fr.enter (head105 x (.h0 v2 v3)).stk (head105 x (.h0 v2 v3)).H = (step105 x (.h0 v2 v3)).wp (kont W Q (head105 x)) := by kernel_rfl
end
theorem runs105 (W : Cfg) (Q : Int → Prop) (x : ((List Int) × Int)) : ∀ j : J105, run (env need105 (fun _ _ => none)) stop105 (finS spec105 Q) W 100000 (head105 x j).fr.enter (head105 x j).stk (head105 x j).H = (step105 x j).wp (kont W Q (head105 x))
 | .h0 v2 v3 => run105h0 W Q x v2 v3
theorem ok105 : SpecOk env0 105 spec105 := SpecOk.env rfl (fun _ _ h => h) (spec_of_trees (E := (env need105 (fun _ _ => none))) (sp := spec105) (valid _ _) (fun f sp h => SpecOk.env rfl (fun _ _ h => h) (need105_ok f sp h)) (fn := Tryz.f105) (c := (bodyOf Tryz.f105)) (by kernel_rfl) (by kernel_rfl) tree105 step105 head105 run105 runs105 (fun _ h => endVal_ends h))
noncomputable def tree51 (x : ((List Int) × Int)) : Tr Bool :=
  .need (pre105 x) <|
  .ret (ile 0 (fn105 x))
noncomputable def fn51 (x : ((List Int) × Int)) : Bool := (tree51 x).val
def pre51 (x : ((List Int) × Int)) : Prop := (tree51 x).ok
noncomputable def spec51 : Spec := { dom := (.st (.slice (.int .i64)) (.st1 (.int .i64))), cod := .bool, n := 1, pre := pre51, f := fn51 }
noncomputable def need51 : FuncId → Option Spec
  | 105 => some spec105
  | _ => none
theorem need51_ok : ∀ f sp, need51 f = some sp → SpecOk env0 f sp := by
  intro f sp h
  unfold need51 at h
  split at h
  · cases h; exact ok105
  · cases h
section
variable (W : Cfg) (Q : Bool → Prop) (x : ((List Int) × Int))
theorem run51 : run (env need51 (fun _ _ => none)) (fun _ _ _ => none) (finS spec51 Q) W 100000 (startFr 51 Tryz.f51 (bodyOf Tryz.f51) (argsOf (.st (.slice (.int .i64)) (.st1 (.int .i64))) x)) [] [] = (tree51 x).wp Q := by kernel_rfl
end
theorem ok51 : SpecOk env0 51 spec51 := SpecOk.env rfl (fun _ _ h => h) (spec_of_tree (E := (env need51 (fun _ _ => none))) (sp := spec51) (valid _ _) (fun f sp h => SpecOk.env rfl (fun _ _ h => h) (need51_ok f sp h)) (fn := Tryz.f51) (c := (bodyOf Tryz.f51)) (by kernel_rfl) (by kernel_rfl) tree51 run51 (fun _ h => Tr.gives_val h))
end Go.Eng.RZ
end
