/- A part of the proof that the laws of this seat hold. Conditions: none beyond the row. -/
import Derived.Test.YtjjoocjlmopfjaaDoorEng1
import Derived.Test.YtjjoocjlmopfjaaDoorProg
import Derived.KernelRfl
import Derived.Lib.LaidTab
import Derived.Stop.LaidErr
set_option maxRecDepth 100000
set_option linter.unusedVariables false
set_option linter.unusedSimpArgs false
set_option linter.unusedSectionVars false
section
/- The tables of this program, and that they are right. -/
namespace Go.Eng.RE
open Go.Proofs Go.Eng
@[reducible] def CerrorAddressString : TC := (.st .str (.st1 (.int .u64)))
@[reducible] def CboundsError : TC := (.st (.int .i64) (.st (.int .i64) (.st .bool (.st1 (.int .u8)))))
@[reducible] def Chead : TC := (.st (.int .u8) (.st .bool (.st (.int .u8) (.st (.int .u8) (.st (.int .u8) (.st1 (.int .i64)))))))
abbrev Dhead : Type := (Int × (Bool × (Int × (Int × (Int × Int)))))
@[reducible] def Creader : TC := (.st (.slice (.int .u8)) (.st .bool (.st (.int .u8) (.st .bool (.st (.int .u8) (.st (.int .u8) (.st1 (.int .u8))))))))
abbrev Dreader : Type := ((List Int) × (Bool × (Int × (Bool × (Int × (Int × Int))))))
@[reducible] def CO : TC := (.st (.int .u8) (.st (.int .i64) (.st (.int .i64) (.st (.int .i64) (.st (.int .i64) (.st (.int .i64) (.st .bool (.st1 (.int .i64)))))))))
abbrev DO : Type := (Int × (Int × (Int × (Int × (Int × (Int × (Bool × Int)))))))
@[reducible] def Crow : TC := (.st (.int .i64) (.st .str (.st .str (.st (.int .u8) (.st (.slice (.int .u8)) (.st (.int .i64) (.st (.int .i64) (.st1 (.int .i64)))))))))
abbrev Drow : Type := (Int × (ByteArray × (ByteArray × (Int × ((List Int) × (Int × (Int × Int)))))))
@[reducible] def CInsn : TC := (.st (.int .u8) (.st (.int .u8) (.st (.int .i64) (.st CO (.st CO (.st (.int .u8) (.st1 (.int .i64))))))))
abbrev DI : Type := (Int × (Int × (Int × (DO × (DO × (Int × Int))))))
@[reducible] def CForm : TC := (.st (.int .u8) (.st (.int .u8) (.st (.int .u8) (.st .bool (.st (.int .i64) (.st (.int .u8) (.st (.int .u8) (.st (.int .i64) (.st (.int .u8) (.st (.int .i64) (.st .bool (.st .bool (.st .bool (.st1 .bool))))))))))))))
abbrev DF : Type := (Int × (Int × (Int × (Bool × (Int × (Int × (Int × (Int × (Int × (Int × (Bool × (Bool × (Bool × Bool)))))))))))))
noncomputable def ty : TypeId → Option ATy
  | 1 => some { desc := Tryd.t1.desc, size := 1, bytes := 8, zero := (.raw .nilFunc), code := none }
  | 2 => some { desc := (.int .i64), size := 1, bytes := 8, zero := (.int .i64 0), code := (some (.int .i64)) }
  | 3 => some { desc := (.int .i64), size := 1, bytes := 8, zero := (.int .i64 0), code := (some (.int .i64)) }
  | 4 => some { desc := .bool, size := 1, bytes := 1, zero := (.bool false), code := (some .bool) }
  | 5 => some { desc := (.int .u8), size := 1, bytes := 1, zero := (.int .u8 0), code := (some (.int .u8)) }
  | 6 => some { desc := (.int .u8), size := 1, bytes := 1, zero := (.int .u8 0), code := (some (.int .u8)) }
  | 7 => some { desc := Tryd.t7.desc, size := 4, bytes := 24, zero := (.agg [1, 1, 1, 1] [(.int .i64 0), (.int .i64 0), (.bool false), (.int .u8 0)]), code := (some CboundsError) }
  | 8 => some { desc := Tryd.t7.desc, size := 4, bytes := 24, zero := (.agg [1, 1, 1, 1] [(.int .i64 0), (.int .i64 0), (.bool false), (.int .u8 0)]), code := (some CboundsError) }
  | 9 => some { desc := .string, size := 1, bytes := 16, zero := (.str ByteArray.empty), code := (some .str) }
  | 10 => some { desc := .string, size := 1, bytes := 16, zero := (.str ByteArray.empty), code := (some .str) }
  | 11 => some { desc := .string, size := 1, bytes := 16, zero := (.str ByteArray.empty), code := (some .str) }
  | 12 => some { desc := (.int .u64), size := 1, bytes := 8, zero := (.int .u64 0), code := (some (.int .u64)) }
  | 13 => some { desc := Tryd.t13.desc, size := 2, bytes := 24, zero := (.agg [1, 1] [(.str ByteArray.empty), (.int .u64 0)]), code := (some CerrorAddressString) }
  | 14 => some { desc := Tryd.t13.desc, size := 2, bytes := 24, zero := (.agg [1, 1] [(.str ByteArray.empty), (.int .u64 0)]), code := (some CerrorAddressString) }
  | 15 => some { desc := (.pointer 180), size := 1, bytes := 8, zero := (.raw (.pointer none)), code := none }
  | 16 => some { desc := (.pointer 183), size := 1, bytes := 8, zero := (.raw (.pointer none)), code := none }
  | 17 => some { desc := (.pointer 192), size := 1, bytes := 8, zero := (.raw (.pointer none)), code := none }
  | 18 => some { desc := Tryd.t18.desc, size := 1, bytes := 8, zero := (.agg [1] [(.raw (.pointer none))]), code := none }
  | 19 => some { desc := Tryd.t18.desc, size := 1, bytes := 8, zero := (.agg [1] [(.raw (.pointer none))]), code := none }
  | 20 => some { desc := Tryd.t20.desc, size := 1, bytes := 16, zero := (.raw .nilIface), code := none }
  | 21 => some { desc := (.int .i32), size := 1, bytes := 4, zero := (.int .i32 0), code := (some (.int .i32)) }
  | 22 => some { desc := Tryd.t22.desc, size := 8, bytes := 64, zero := (.agg [1, 1, 1, 1, 1, 1, 1, 1] [(.int .u8 0), (.int .i64 0), (.int .i64 0), (.int .i64 0), (.int .i64 0), (.int .i64 0), (.bool false), (.int .i64 0)]), code := (some CO) }
  | 23 => some { desc := Tryd.t22.desc, size := 8, bytes := 64, zero := (.agg [1, 1, 1, 1, 1, 1, 1, 1] [(.int .u8 0), (.int .i64 0), (.int .i64 0), (.int .i64 0), (.int .i64 0), (.int .i64 0), (.bool false), (.int .i64 0)]), code := (some CO) }
  | 24 => some { desc := Tryd.t24.desc, size := 21, bytes := 160, zero := (.agg [1, 1, 1, 8, 8, 1, 1] [(.int .u8 0), (.int .u8 0), (.int .i64 0), (.agg [1, 1, 1, 1, 1, 1, 1, 1] [(.int .u8 0), (.int .i64 0), (.int .i64 0), (.int .i64 0), (.int .i64 0), (.int .i64 0), (.bool false), (.int .i64 0)]), (.agg [1, 1, 1, 1, 1, 1, 1, 1] [(.int .u8 0), (.int .i64 0), (.int .i64 0), (.int .i64 0), (.int .i64 0), (.int .i64 0), (.bool false), (.int .i64 0)]), (.int .u8 0), (.int .i64 0)]), code := (some CInsn) }
  | 25 => some { desc := Tryd.t24.desc, size := 21, bytes := 160, zero := (.agg [1, 1, 1, 8, 8, 1, 1] [(.int .u8 0), (.int .u8 0), (.int .i64 0), (.agg [1, 1, 1, 1, 1, 1, 1, 1] [(.int .u8 0), (.int .i64 0), (.int .i64 0), (.int .i64 0), (.int .i64 0), (.int .i64 0), (.bool false), (.int .i64 0)]), (.agg [1, 1, 1, 1, 1, 1, 1, 1] [(.int .u8 0), (.int .i64 0), (.int .i64 0), (.int .i64 0), (.int .i64 0), (.int .i64 0), (.bool false), (.int .i64 0)]), (.int .u8 0), (.int .i64 0)]), code := (some CInsn) }
  | 26 => some { desc := (.slice 25), size := 1, bytes := 24, zero := (.raw (.slice none 0 0)), code := (some (.slice CInsn)) }
  | 27 => some { desc := Tryd.t27.desc, size := 1, bytes := 8, zero := (.raw .nilFunc), code := none }
  | 28 => some { desc := (.slice 5), size := 1, bytes := 24, zero := (.raw (.slice none 0 0)), code := (some (.slice (.int .u8))) }
  | 29 => some { desc := (.int .i64), size := 1, bytes := 8, zero := (.int .i64 0), code := (some (.int .i64)) }
  | 31 => some { desc := Tryd.t31.desc, size := 1, bytes := 8, zero := (.raw .nilFunc), code := none }
  | 32 => some { desc := Tryd.t32.desc, size := 1, bytes := 8, zero := (.raw .nilFunc), code := none }
  | 33 => some { desc := Tryd.t33.desc, size := 1, bytes := 8, zero := (.raw .nilFunc), code := none }
  | 34 => some { desc := Tryd.t34.desc, size := 1, bytes := 8, zero := (.raw .nilFunc), code := none }
  | 35 => some { desc := Tryd.t35.desc, size := 1, bytes := 8, zero := (.raw .nilFunc), code := none }
  | 36 => some { desc := Tryd.t36.desc, size := 1, bytes := 8, zero := (.raw .nilFunc), code := none }
  | 37 => some { desc := Tryd.t37.desc, size := 1, bytes := 8, zero := (.raw .nilFunc), code := none }
  | 38 => some { desc := Tryd.t38.desc, size := 1, bytes := 8, zero := (.raw .nilFunc), code := none }
  | 39 => some { desc := Tryd.t39.desc, size := 1, bytes := 8, zero := (.raw .nilFunc), code := none }
  | 41 => some { desc := Tryd.t41.desc, size := 1, bytes := 8, zero := (.raw .nilFunc), code := none }
  | 42 => some { desc := Tryd.t42.desc, size := 1, bytes := 8, zero := (.raw .nilFunc), code := none }
  | 44 => some { desc := Tryd.t44.desc, size := 1, bytes := 8, zero := (.raw .nilFunc), code := none }
  | 45 => some { desc := Tryd.t45.desc, size := 1, bytes := 8, zero := (.raw .nilFunc), code := none }
  | 46 => some { desc := Tryd.t46.desc, size := 1, bytes := 8, zero := (.raw .nilFunc), code := none }
  | 47 => some { desc := (.array 8 5), size := 8, bytes := 8, zero := (.arr 8 (.int .u8) (List.replicate 8 (0 : Int))), code := (some (.arr 8 (.int .u8))) }
  | 48 => some { desc := (.slice 51), size := 1, bytes := 24, zero := (.raw (.slice none 0 0)), code := (some (.slice CForm)) }
  | 49 => some { desc := Tryd.t49.desc, size := 1, bytes := 8, zero := (.raw .nilFunc), code := none }
  | 50 => some { desc := Tryd.t50.desc, size := 14, bytes := 56, zero := (.agg [1, 1, 1, 1, 1, 1, 1, 1, 1, 1, 1, 1, 1, 1] [(.int .u8 0), (.int .u8 0), (.int .u8 0), (.bool false), (.int .i64 0), (.int .u8 0), (.int .u8 0), (.int .i64 0), (.int .u8 0), (.int .i64 0), (.bool false), (.bool false), (.bool false), (.bool false)]), code := (some CForm) }
  | 51 => some { desc := Tryd.t50.desc, size := 14, bytes := 56, zero := (.agg [1, 1, 1, 1, 1, 1, 1, 1, 1, 1, 1, 1, 1, 1] [(.int .u8 0), (.int .u8 0), (.int .u8 0), (.bool false), (.int .i64 0), (.int .u8 0), (.int .u8 0), (.int .i64 0), (.int .u8 0), (.int .i64 0), (.bool false), (.bool false), (.bool false), (.bool false)]), code := (some CForm) }
  | 52 => some { desc := (.int .u64), size := 1, bytes := 8, zero := (.int .u64 0), code := (some (.int .u64)) }
  | 53 => some { desc := Tryd.t53.desc, size := 1, bytes := 8, zero := (.raw .nilFunc), code := none }
  | 54 => some { desc := Tryd.t54.desc, size := 1, bytes := 8, zero := (.raw .nilFunc), code := none }
  | 55 => some { desc := Tryd.t55.desc, size := 1, bytes := 8, zero := (.raw .nilFunc), code := none }
  | 56 => some { desc := (.slice 3), size := 1, bytes := 24, zero := (.raw (.slice none 0 0)), code := (some (.slice (.int .i64))) }
  | 57 => some { desc := (.slice 63), size := 1, bytes := 24, zero := (.raw (.slice none 0 0)), code := none }
  | 58 => some { desc := Tryd.t58.desc, size := 3, bytes := 56, zero := (.agg [1, 1, 1] [(.raw (.slice none 0 0)), (.int .u8 0), (.raw (.slice none 0 0))]), code := none }
  | 59 => some { desc := Tryd.t58.desc, size := 3, bytes := 56, zero := (.agg [1, 1, 1] [(.raw (.slice none 0 0)), (.int .u8 0), (.raw (.slice none 0 0))]), code := none }
  | 60 => some { desc := Tryd.t60.desc, size := 1, bytes := 8, zero := (.raw .nilFunc), code := none }
  | 61 => some { desc := Tryd.t60.desc, size := 1, bytes := 8, zero := (.raw .nilFunc), code := none }
  | 62 => some { desc := Tryd.t62.desc, size := 6, bytes := 64, zero := (.agg [1, 1, 1, 1, 1, 1] [(.raw .nilFunc), (.raw .nilFunc), (.raw (.slice none 0 0)), (.int .i64 0), (.int .i64 0), (.int .i64 0)]), code := none }
  | 63 => some { desc := Tryd.t62.desc, size := 6, bytes := 64, zero := (.agg [1, 1, 1, 1, 1, 1] [(.raw .nilFunc), (.raw .nilFunc), (.raw (.slice none 0 0)), (.int .i64 0), (.int .i64 0), (.int .i64 0)]), code := none }
  | 65 => some { desc := Tryd.t65.desc, size := 1, bytes := 8, zero := (.raw .nilFunc), code := none }
  | 66 => some { desc := Tryd.t66.desc, size := 1, bytes := 8, zero := (.raw .nilFunc), code := none }
  | 67 => some { desc := Tryd.t67.desc, size := 1, bytes := 8, zero := (.raw .nilFunc), code := none }
  | 69 => some { desc := Tryd.t69.desc, size := 1, bytes := 8, zero := (.raw .nilFunc), code := none }
  | 70 => some { desc := Tryd.t70.desc, size := 1, bytes := 8, zero := (.raw .nilFunc), code := none }
  | 71 => some { desc := Tryd.t71.desc, size := 8, bytes := 96, zero := (.agg [1, 1, 1, 1, 1, 1, 1, 1] [(.int .i64 0), (.str ByteArray.empty), (.str ByteArray.empty), (.int .u8 0), (.raw (.slice none 0 0)), (.int .i64 0), (.int .i64 0), (.int .i64 0)]), code := (some Crow) }
  | 72 => some { desc := Tryd.t71.desc, size := 8, bytes := 96, zero := (.agg [1, 1, 1, 1, 1, 1, 1, 1] [(.int .i64 0), (.str ByteArray.empty), (.str ByteArray.empty), (.int .u8 0), (.raw (.slice none 0 0)), (.int .i64 0), (.int .i64 0), (.int .i64 0)]), code := (some Crow) }
  | 74 => some { desc := Tryd.t74.desc, size := 1, bytes := 8, zero := (.raw .nilFunc), code := none }
  | 75 => some { desc := Tryd.t75.desc, size := 1, bytes := 8, zero := (.raw .nilFunc), code := none }
  | 76 => some { desc := Tryd.t76.desc, size := 6, bytes := 16, zero := (.agg [1, 1, 1, 1, 1, 1] [(.int .u8 0), (.bool false), (.int .u8 0), (.int .u8 0), (.int .u8 0), (.int .i64 0)]), code := (some Chead) }
  | 77 => some { desc := Tryd.t76.desc, size := 6, bytes := 16, zero := (.agg [1, 1, 1, 1, 1, 1] [(.int .u8 0), (.bool false), (.int .u8 0), (.int .u8 0), (.int .u8 0), (.int .i64 0)]), code := (some Chead) }
  | 79 => some { desc := Tryd.t79.desc, size := 1, bytes := 8, zero := (.raw .nilFunc), code := none }
  | 81 => some { desc := Tryd.t81.desc, size := 1, bytes := 8, zero := (.raw .nilFunc), code := none }
  | 82 => some { desc := Tryd.t82.desc, size := 1, bytes := 8, zero := (.raw .nilFunc), code := none }
  | 84 => some { desc := Tryd.t84.desc, size := 1, bytes := 8, zero := (.raw .nilFunc), code := none }
  | 85 => some { desc := Tryd.t85.desc, size := 1, bytes := 8, zero := (.raw .nilFunc), code := none }
  | 86 => some { desc := Tryd.t86.desc, size := 1, bytes := 8, zero := (.raw .nilFunc), code := none }
  | 87 => some { desc := (.pointer 89), size := 1, bytes := 8, zero := (.raw (.pointer none)), code := none }
  | 88 => some { desc := Tryd.t88.desc, size := 7, bytes := 32, zero := (.agg [1, 1, 1, 1, 1, 1, 1] [(.raw (.slice none 0 0)), (.bool false), (.int .u8 0), (.bool false), (.int .u8 0), (.int .u8 0), (.int .u8 0)]), code := (some Creader) }
  | 89 => some { desc := Tryd.t88.desc, size := 7, bytes := 32, zero := (.agg [1, 1, 1, 1, 1, 1, 1] [(.raw (.slice none 0 0)), (.bool false), (.int .u8 0), (.bool false), (.int .u8 0), (.int .u8 0), (.int .u8 0)]), code := (some Creader) }
  | 90 => some { desc := Tryd.t90.desc, size := 1, bytes := 8, zero := (.raw .nilFunc), code := none }
  | 92 => some { desc := Tryd.t92.desc, size := 1, bytes := 8, zero := (.raw .nilFunc), code := none }
  | 93 => some { desc := Tryd.t93.desc, size := 1, bytes := 8, zero := (.raw .nilFunc), code := none }
  | 94 => some { desc := (.array 4 1), size := 4, bytes := 32, zero := (.agg [1, 1, 1, 1] [(.raw .nilFunc), (.raw .nilFunc), (.raw .nilFunc), (.raw .nilFunc)]), code := none }
  | 95 => some { desc := Tryd.t95.desc, size := 1, bytes := 8, zero := (.raw .nilFunc), code := none }
  | 96 => some { desc := (.array 9 95), size := 9, bytes := 72, zero := (.agg [1, 1, 1, 1, 1, 1, 1, 1, 1] [(.raw .nilFunc), (.raw .nilFunc), (.raw .nilFunc), (.raw .nilFunc), (.raw .nilFunc), (.raw .nilFunc), (.raw .nilFunc), (.raw .nilFunc), (.raw .nilFunc)]), code := none }
  | 97 => some { desc := Tryd.t97.desc, size := 1, bytes := 8, zero := (.raw .nilFunc), code := none }
  | 98 => some { desc := Tryd.t97.desc, size := 1, bytes := 8, zero := (.raw .nilFunc), code := none }
  | 99 => some { desc := Tryd.t99.desc, size := 1, bytes := 8, zero := (.raw .nilFunc), code := none }
  | 100 => some { desc := Tryd.t100.desc, size := 1, bytes := 8, zero := (.raw .nilFunc), code := none }
  | 101 => some { desc := Tryd.t100.desc, size := 1, bytes := 8, zero := (.raw .nilFunc), code := none }
  | 102 => some { desc := Tryd.t102.desc, size := 1, bytes := 8, zero := (.raw .nilFunc), code := none }
  | 103 => some { desc := Tryd.t103.desc, size := 1, bytes := 8, zero := (.raw .nilFunc), code := none }
  | 104 => some { desc := Tryd.t104.desc, size := 1, bytes := 8, zero := (.raw .nilFunc), code := none }
  | 106 => some { desc := Tryd.t106.desc, size := 1, bytes := 8, zero := (.raw .nilFunc), code := none }
  | 107 => some { desc := Tryd.t107.desc, size := 1, bytes := 8, zero := (.raw .nilFunc), code := none }
  | 108 => some { desc := (.slice 28), size := 1, bytes := 24, zero := (.raw (.slice none 0 0)), code := (some (.slice (.slice (.int .u8)))) }
  | 109 => some { desc := Tryd.t109.desc, size := 1, bytes := 8, zero := (.raw .nilFunc), code := none }
  | 110 => some { desc := (.slice 72), size := 1, bytes := 24, zero := (.raw (.slice none 0 0)), code := (some (.slice Crow)) }
  | 111 => some { desc := Tryd.t111.desc, size := 1, bytes := 8, zero := (.raw .nilFunc), code := none }
  | 112 => some { desc := Tryd.t112.desc, size := 1, bytes := 8, zero := (.raw .nilFunc), code := none }
  | 113 => some { desc := Tryd.t113.desc, size := 1, bytes := 8, zero := (.raw .nilFunc), code := none }
  | 114 => some { desc := (.int .u64), size := 1, bytes := 8, zero := (.int .u64 0), code := (some (.int .u64)) }
  | 115 => some { desc := Tryd.t115.desc, size := 1, bytes := 8, zero := (.raw .nilFunc), code := none }
  | 117 => some { desc := Tryd.t117.desc, size := 1, bytes := 8, zero := (.raw .nilFunc), code := none }
  | 118 => some { desc := Tryd.t118.desc, size := 1, bytes := 8, zero := (.raw .nilFunc), code := none }
  | 119 => some { desc := Tryd.t119.desc, size := 1, bytes := 8, zero := (.raw .nilFunc), code := none }
  | 121 => some { desc := Tryd.t121.desc, size := 1, bytes := 8, zero := (.raw .nilFunc), code := none }
  | 122 => some { desc := Tryd.t122.desc, size := 1, bytes := 8, zero := (.raw .nilFunc), code := none }
  | 123 => some { desc := Tryd.t123.desc, size := 1, bytes := 8, zero := (.raw .nilFunc), code := none }
  | 124 => some { desc := (.array 5 3), size := 5, bytes := 40, zero := (.arr 5 (.int .i64) (List.replicate 5 (0 : Int))), code := (some (.arr 5 (.int .i64))) }
  | 125 => some { desc := (.array 5 5), size := 5, bytes := 5, zero := (.arr 5 (.int .u8) (List.replicate 5 (0 : Int))), code := (some (.arr 5 (.int .u8))) }
  | 126 => some { desc := Tryd.t126.desc, size := 1, bytes := 8, zero := (.raw .nilFunc), code := none }
  | 127 => some { desc := (.slice 59), size := 1, bytes := 24, zero := (.raw (.slice none 0 0)), code := none }
  | 128 => some { desc := Tryd.t128.desc, size := 1, bytes := 8, zero := (.raw .nilFunc), code := none }
  | 129 => some { desc := Tryd.t129.desc, size := 1, bytes := 8, zero := (.raw .nilFunc), code := none }
  | 130 => some { desc := (.int .i8), size := 1, bytes := 1, zero := (.int .i8 0), code := (some (.int .i8)) }
  | 131 => some { desc := Tryd.t131.desc, size := 1, bytes := 8, zero := (.raw .nilFunc), code := none }
  | 132 => some { desc := (.int .u32), size := 1, bytes := 4, zero := (.int .u32 0), code := (some (.int .u32)) }
  | 133 => some { desc := Tryd.t133.desc, size := 1, bytes := 8, zero := (.raw .nilFunc), code := none }
  | 134 => some { desc := Tryd.t134.desc, size := 1, bytes := 8, zero := (.raw .nilFunc), code := none }
  | 135 => some { desc := Tryd.t135.desc, size := 1, bytes := 8, zero := (.raw .nilFunc), code := none }
  | 136 => some { desc := Tryd.t136.desc, size := 1, bytes := 8, zero := (.raw .nilFunc), code := none }
  | 138 => some { desc := Tryd.t138.desc, size := 1, bytes := 8, zero := (.raw .nilFunc), code := none }
  | 139 => some { desc := Tryd.t139.desc, size := 1, bytes := 8, zero := (.raw .nilFunc), code := none }
  | 140 => some { desc := Tryd.t140.desc, size := 1, bytes := 8, zero := (.raw .nilFunc), code := none }
  | 141 => some { desc := Tryd.t141.desc, size := 1, bytes := 8, zero := (.raw .nilFunc), code := none }
  | 142 => some { desc := Tryd.t141.desc, size := 1, bytes := 8, zero := (.raw .nilFunc), code := none }
  | 143 => some { desc := Tryd.t143.desc, size := 1, bytes := 8, zero := (.raw .nilFunc), code := none }
  | 144 => some { desc := Tryd.t144.desc, size := 1, bytes := 8, zero := (.raw .nilFunc), code := none }
  | 145 => some { desc := (.array 4 3), size := 4, bytes := 32, zero := (.arr 4 (.int .i64) (List.replicate 4 (0 : Int))), code := (some (.arr 4 (.int .i64))) }
  | 146 => some { desc := Tryd.t146.desc, size := 1, bytes := 8, zero := (.raw .nilFunc), code := none }
  | 147 => some { desc := Tryd.t146.desc, size := 1, bytes := 8, zero := (.raw .nilFunc), code := none }
  | 148 => some { desc := Tryd.t148.desc, size := 1, bytes := 8, zero := (.raw .nilFunc), code := none }
  | 149 => some { desc := (.map 5 3), size := 1, bytes := 8, zero := (.raw (.map none)), code := none }
  | 150 => some { desc := Tryd.t150.desc, size := 1, bytes := 8, zero := (.raw .nilFunc), code := none }
  | 151 => some { desc := Tryd.t151.desc, size := 1, bytes := 8, zero := (.raw .nilFunc), code := none }
  | 152 => some { desc := Tryd.t152.desc, size := 1, bytes := 8, zero := (.raw .nilFunc), code := none }
  | 153 => some { desc := Tryd.t153.desc, size := 1, bytes := 8, zero := (.raw .nilFunc), code := none }
  | 154 => some { desc := Tryd.t154.desc, size := 1, bytes := 8, zero := (.raw .nilFunc), code := none }
  | 155 => some { desc := Tryd.t155.desc, size := 1, bytes := 8, zero := (.raw .nilFunc), code := none }
  | 156 => some { desc := (.map 5 153), size := 1, bytes := 8, zero := (.raw (.map none)), code := none }
  | 158 => some { desc := Tryd.t158.desc, size := 1, bytes := 8, zero := (.raw .nilFunc), code := none }
  | 159 => some { desc := (.array 32 5), size := 32, bytes := 32, zero := (.arr 32 (.int .u8) (List.replicate 32 (0 : Int))), code := (some (.arr 32 (.int .u8))) }
  | 160 => some { desc := (.array 64 5), size := 64, bytes := 64, zero := (.arr 64 (.int .u8) (List.replicate 64 (0 : Int))), code := (some (.arr 64 (.int .u8))) }
  | 161 => some { desc := Tryd.t161.desc, size := 1, bytes := 8, zero := (.raw .nilFunc), code := none }
  | 162 => some { desc := Tryd.t162.desc, size := 1, bytes := 8, zero := (.raw .nilFunc), code := none }
  | 163 => some { desc := (.array 4 48), size := 4, bytes := 96, zero := (.arr 4 (.slice CForm) (List.replicate 4 ([] : List DF))), code := (some (.arr 4 (.slice CForm))) }
  | 164 => some { desc := Tryd.t164.desc, size := 1, bytes := 8, zero := (.raw .nilFunc), code := none }
  | 165 => some { desc := Tryd.t165.desc, size := 1, bytes := 8, zero := (.raw .nilFunc), code := none }
  | 166 => some { desc := Tryd.t166.desc, size := 1, bytes := 8, zero := (.raw .nilFunc), code := none }
  | 167 => some { desc := Tryd.t167.desc, size := 1, bytes := 8, zero := (.raw .nilFunc), code := none }
  | 168 => some { desc := Tryd.t168.desc, size := 3, bytes := 24, zero := (.agg [1, 1, 1] [(.int .u8 0), (.int .i64 0), (.int .u8 0)]), code := (some (.st (.int .u8) (.st (.int .i64) (.st1 (.int .u8))))) }
  | 169 => some { desc := (.array 6 168), size := 18, bytes := 144, zero := (.arr 6 (.st (.int .u8) (.st (.int .i64) (.st1 (.int .u8)))) (List.replicate 6 (0, (0, 0)))), code := (some (.arr 6 (.st (.int .u8) (.st (.int .i64) (.st1 (.int .u8)))))) }
  | 170 => some { desc := Tryd.t170.desc, size := 1, bytes := 8, zero := (.raw .nilFunc), code := none }
  | 171 => some { desc := Tryd.t171.desc, size := 1, bytes := 8, zero := (.raw .nilFunc), code := none }
  | 172 => some { desc := Tryd.t172.desc, size := 1, bytes := 8, zero := (.raw .nilFunc), code := none }
  | 173 => some { desc := Tryd.t173.desc, size := 1, bytes := 8, zero := (.raw .nilFunc), code := none }
  | 174 => some { desc := Tryd.t174.desc, size := 1, bytes := 8, zero := (.raw .nilFunc), code := none }
  | 175 => some { desc := (.slice 48), size := 1, bytes := 24, zero := (.raw (.slice none 0 0)), code := (some (.slice (.slice CForm))) }
  | 176 => some { desc := Tryd.t176.desc, size := 1, bytes := 8, zero := (.raw .nilFunc), code := none }
  | 177 => some { desc := Tryd.t177.desc, size := 1, bytes := 8, zero := (.raw .nilFunc), code := none }
  | 178 => some { desc := Tryd.t178.desc, size := 1, bytes := 8, zero := (.raw .nilFunc), code := none }
  | 179 => some { desc := Tryd.t179.desc, size := 4, bytes := 40, zero := (.agg [1, 1, 1, 1] [(.raw (.pointer none)), (.raw (.pointer none)), (.raw (.pointer none)), (.str ByteArray.empty)]), code := none }
  | 180 => some { desc := Tryd.t179.desc, size := 4, bytes := 40, zero := (.agg [1, 1, 1, 1] [(.raw (.pointer none)), (.raw (.pointer none)), (.raw (.pointer none)), (.str ByteArray.empty)]), code := none }
  | 181 => some { desc := (.array 0 16), size := 0, bytes := 0, zero := (.agg [] []), code := none }
  | 184 => some { desc := Tryd.t184.desc, size := 1, bytes := 8, zero := (.raw .nilFunc), code := none }
  | 185 => some { desc := (.int .u8), size := 1, bytes := 1, zero := (.int .u8 0), code := (some (.int .u8)) }
  | 186 => some { desc := (.int .u8), size := 1, bytes := 1, zero := (.int .u8 0), code := (some (.int .u8)) }
  | 187 => some { desc := Tryd.t187.desc, size := 1, bytes := 8, zero := (.raw .nilFunc), code := none }
  | 188 => some { desc := (.pointer 5), size := 1, bytes := 8, zero := (.raw (.pointer none)), code := none }
  | 189 => some { desc := (.int .i32), size := 1, bytes := 4, zero := (.int .i32 0), code := (some (.int .i32)) }
  | 190 => some { desc := (.int .i32), size := 1, bytes := 4, zero := (.int .i32 0), code := (some (.int .i32)) }
  | 191 => some { desc := Tryd.t191.desc, size := 11, bytes := 48, zero := (.agg [1, 1, 1, 1, 1, 1, 1, 1, 1, 1, 1] [(.int .u64 0), (.int .u64 0), (.int .u32 0), (.int .u8 0), (.int .u8 0), (.int .u8 0), (.int .u8 0), (.raw .nilFunc), (.raw (.pointer none)), (.int .i32 0), (.int .i32 0)]), code := none }
  | 192 => some { desc := Tryd.t191.desc, size := 11, bytes := 48, zero := (.agg [1, 1, 1, 1, 1, 1, 1, 1, 1, 1, 1] [(.int .u64 0), (.int .u64 0), (.int .u32 0), (.int .u8 0), (.int .u8 0), (.int .u8 0), (.int .u8 0), (.raw .nilFunc), (.raw (.pointer none)), (.int .i32 0), (.int .i32 0)]), code := none }
  | _ => none
theorem ty_ok : ∀ t d, ty t = some d → d.ok Tryd.prog t := by
  intro t d h
  unfold ty at h
  split at h
  · cases h; exact ATy.ok_of (i := Tryd.t1) Tryd.underlying1 Tryd.type1 rfl (by kernel_rfl)
  · cases h; exact ATy.ok_of (i := Tryd.t2) Tryd.underlying2 Tryd.type2 rfl (by kernel_rfl)
  · cases h; exact ATy.ok_of (i := Tryd.t3) Tryd.underlying3 Tryd.type3 rfl (by kernel_rfl)
  · cases h; exact ATy.ok_of (i := Tryd.t4) Tryd.underlying4 Tryd.type4 rfl (by kernel_rfl)
  · cases h; exact ATy.ok_of (i := Tryd.t5) Tryd.underlying5 Tryd.type5 rfl (by kernel_rfl)
  · cases h; exact ATy.ok_of (i := Tryd.t6) Tryd.underlying6 Tryd.type6 rfl (by kernel_rfl)
  · cases h; exact ATy.ok_of (i := Tryd.t7) Tryd.underlying7 Tryd.type7 rfl (by kernel_rfl)
  · cases h; exact ATy.ok_of (i := Tryd.t8) Tryd.underlying8 Tryd.type8 rfl (by kernel_rfl)
  · cases h; exact ATy.ok_of (i := Tryd.t9) Tryd.underlying9 Tryd.type9 rfl (by kernel_rfl)
  · cases h; exact ATy.ok_of (i := Tryd.t10) Tryd.underlying10 Tryd.type10 rfl (by kernel_rfl)
  · cases h; exact ATy.ok_of (i := Tryd.t11) Tryd.underlying11 Tryd.type11 rfl (by kernel_rfl)
  · cases h; exact ATy.ok_of (i := Tryd.t12) Tryd.underlying12 Tryd.type12 rfl (by kernel_rfl)
  · cases h; exact ATy.ok_of (i := Tryd.t13) Tryd.underlying13 Tryd.type13 rfl (by kernel_rfl)
  · cases h; exact ATy.ok_of (i := Tryd.t14) Tryd.underlying14 Tryd.type14 rfl (by kernel_rfl)
  · cases h; exact ATy.ok_of (i := Tryd.t15) Tryd.underlying15 Tryd.type15 rfl (by kernel_rfl)
  · cases h; exact ATy.ok_of (i := Tryd.t16) Tryd.underlying16 Tryd.type16 rfl (by kernel_rfl)
  · cases h; exact ATy.ok_of (i := Tryd.t17) Tryd.underlying17 Tryd.type17 rfl (by kernel_rfl)
  · cases h; exact ATy.ok_of (i := Tryd.t18) Tryd.underlying18 Tryd.type18 rfl (by kernel_rfl)
  · cases h; exact ATy.ok_of (i := Tryd.t19) Tryd.underlying19 Tryd.type19 rfl (by kernel_rfl)
  · cases h; exact ATy.ok_of (i := Tryd.t20) Tryd.underlying20 Tryd.type20 rfl (by kernel_rfl)
  · cases h; exact ATy.ok_of (i := Tryd.t21) Tryd.underlying21 Tryd.type21 rfl (by kernel_rfl)
  · cases h; exact ATy.ok_of (i := Tryd.t22) Tryd.underlying22 Tryd.type22 rfl (by kernel_rfl)
  · cases h; exact ATy.ok_of (i := Tryd.t23) Tryd.underlying23 Tryd.type23 rfl (by kernel_rfl)
  · cases h; exact ATy.ok_of (i := Tryd.t24) Tryd.underlying24 Tryd.type24 rfl (by kernel_rfl)
  · cases h; exact ATy.ok_of (i := Tryd.t25) Tryd.underlying25 Tryd.type25 rfl (by kernel_rfl)
  · cases h; exact ATy.ok_of (i := Tryd.t26) Tryd.underlying26 Tryd.type26 rfl (by kernel_rfl)
  · cases h; exact ATy.ok_of (i := Tryd.t27) Tryd.underlying27 Tryd.type27 rfl (by kernel_rfl)
  · cases h; exact ATy.ok_of (i := Tryd.t28) Tryd.underlying28 Tryd.type28 rfl (by kernel_rfl)
  · cases h; exact ATy.ok_of (i := Tryd.t29) Tryd.underlying29 Tryd.type29 rfl (by kernel_rfl)
  · cases h; exact ATy.ok_of (i := Tryd.t31) Tryd.underlying31 Tryd.type31 rfl (by kernel_rfl)
  · cases h; exact ATy.ok_of (i := Tryd.t32) Tryd.underlying32 Tryd.type32 rfl (by kernel_rfl)
  · cases h; exact ATy.ok_of (i := Tryd.t33) Tryd.underlying33 Tryd.type33 rfl (by kernel_rfl)
  · cases h; exact ATy.ok_of (i := Tryd.t34) Tryd.underlying34 Tryd.type34 rfl (by kernel_rfl)
  · cases h; exact ATy.ok_of (i := Tryd.t35) Tryd.underlying35 Tryd.type35 rfl (by kernel_rfl)
  · cases h; exact ATy.ok_of (i := Tryd.t36) Tryd.underlying36 Tryd.type36 rfl (by kernel_rfl)
  · cases h; exact ATy.ok_of (i := Tryd.t37) Tryd.underlying37 Tryd.type37 rfl (by kernel_rfl)
  · cases h; exact ATy.ok_of (i := Tryd.t38) Tryd.underlying38 Tryd.type38 rfl (by kernel_rfl)
  · cases h; exact ATy.ok_of (i := Tryd.t39) Tryd.underlying39 Tryd.type39 rfl (by kernel_rfl)
  · cases h; exact ATy.ok_of (i := Tryd.t41) Tryd.underlying41 Tryd.type41 rfl (by kernel_rfl)
  · cases h; exact ATy.ok_of (i := Tryd.t42) Tryd.underlying42 Tryd.type42 rfl (by kernel_rfl)
  · cases h; exact ATy.ok_of (i := Tryd.t44) Tryd.underlying44 Tryd.type44 rfl (by kernel_rfl)
  · cases h; exact ATy.ok_of (i := Tryd.t45) Tryd.underlying45 Tryd.type45 rfl (by kernel_rfl)
  · cases h; exact ATy.ok_of (i := Tryd.t46) Tryd.underlying46 Tryd.type46 rfl (by kernel_rfl)
  · cases h; exact ATy.ok_of (i := Tryd.t47) Tryd.underlying47 Tryd.type47 rfl (by kernel_rfl)
  · cases h; exact ATy.ok_of (i := Tryd.t48) Tryd.underlying48 Tryd.type48 rfl (by kernel_rfl)
  · cases h; exact ATy.ok_of (i := Tryd.t49) Tryd.underlying49 Tryd.type49 rfl (by kernel_rfl)
  · cases h; exact ATy.ok_of (i := Tryd.t50) Tryd.underlying50 Tryd.type50 rfl (by kernel_rfl)
  · cases h; exact ATy.ok_of (i := Tryd.t51) Tryd.underlying51 Tryd.type51 rfl (by kernel_rfl)
  · cases h; exact ATy.ok_of (i := Tryd.t52) Tryd.underlying52 Tryd.type52 rfl (by kernel_rfl)
  · cases h; exact ATy.ok_of (i := Tryd.t53) Tryd.underlying53 Tryd.type53 rfl (by kernel_rfl)
  · cases h; exact ATy.ok_of (i := Tryd.t54) Tryd.underlying54 Tryd.type54 rfl (by kernel_rfl)
  · cases h; exact ATy.ok_of (i := Tryd.t55) Tryd.underlying55 Tryd.type55 rfl (by kernel_rfl)
  · cases h; exact ATy.ok_of (i := Tryd.t56) Tryd.underlying56 Tryd.type56 rfl (by kernel_rfl)
  · cases h; exact ATy.ok_of (i := Tryd.t57) Tryd.underlying57 Tryd.type57 rfl (by kernel_rfl)
  · cases h; exact ATy.ok_of (i := Tryd.t58) Tryd.underlying58 Tryd.type58 rfl (by kernel_rfl)
  · cases h; exact ATy.ok_of (i := Tryd.t59) Tryd.underlying59 Tryd.type59 rfl (by kernel_rfl)
  · cases h; exact ATy.ok_of (i := Tryd.t60) Tryd.underlying60 Tryd.type60 rfl (by kernel_rfl)
  · cases h; exact ATy.ok_of (i := Tryd.t61) Tryd.underlying61 Tryd.type61 rfl (by kernel_rfl)
  · cases h; exact ATy.ok_of (i := Tryd.t62) Tryd.underlying62 Tryd.type62 rfl (by kernel_rfl)
  · cases h; exact ATy.ok_of (i := Tryd.t63) Tryd.underlying63 Tryd.type63 rfl (by kernel_rfl)
  · cases h; exact ATy.ok_of (i := Tryd.t65) Tryd.underlying65 Tryd.type65 rfl (by kernel_rfl)
  · cases h; exact ATy.ok_of (i := Tryd.t66) Tryd.underlying66 Tryd.type66 rfl (by kernel_rfl)
  · cases h; exact ATy.ok_of (i := Tryd.t67) Tryd.underlying67 Tryd.type67 rfl (by kernel_rfl)
  · cases h; exact ATy.ok_of (i := Tryd.t69) Tryd.underlying69 Tryd.type69 rfl (by kernel_rfl)
  · cases h; exact ATy.ok_of (i := Tryd.t70) Tryd.underlying70 Tryd.type70 rfl (by kernel_rfl)
  · cases h; exact ATy.ok_of (i := Tryd.t71) Tryd.underlying71 Tryd.type71 rfl (by kernel_rfl)
  · cases h; exact ATy.ok_of (i := Tryd.t72) Tryd.underlying72 Tryd.type72 rfl (by kernel_rfl)
  · cases h; exact ATy.ok_of (i := Tryd.t74) Tryd.underlying74 Tryd.type74 rfl (by kernel_rfl)
  · cases h; exact ATy.ok_of (i := Tryd.t75) Tryd.underlying75 Tryd.type75 rfl (by kernel_rfl)
  · cases h; exact ATy.ok_of (i := Tryd.t76) Tryd.underlying76 Tryd.type76 rfl (by kernel_rfl)
  · cases h; exact ATy.ok_of (i := Tryd.t77) Tryd.underlying77 Tryd.type77 rfl (by kernel_rfl)
  · cases h; exact ATy.ok_of (i := Tryd.t79) Tryd.underlying79 Tryd.type79 rfl (by kernel_rfl)
  · cases h; exact ATy.ok_of (i := Tryd.t81) Tryd.underlying81 Tryd.type81 rfl (by kernel_rfl)
  · cases h; exact ATy.ok_of (i := Tryd.t82) Tryd.underlying82 Tryd.type82 rfl (by kernel_rfl)
  · cases h; exact ATy.ok_of (i := Tryd.t84) Tryd.underlying84 Tryd.type84 rfl (by kernel_rfl)
  · cases h; exact ATy.ok_of (i := Tryd.t85) Tryd.underlying85 Tryd.type85 rfl (by kernel_rfl)
  · cases h; exact ATy.ok_of (i := Tryd.t86) Tryd.underlying86 Tryd.type86 rfl (by kernel_rfl)
  · cases h; exact ATy.ok_of (i := Tryd.t87) Tryd.underlying87 Tryd.type87 rfl (by kernel_rfl)
  · cases h; exact ATy.ok_of (i := Tryd.t88) Tryd.underlying88 Tryd.type88 rfl (by kernel_rfl)
  · cases h; exact ATy.ok_of (i := Tryd.t89) Tryd.underlying89 Tryd.type89 rfl (by kernel_rfl)
  · cases h; exact ATy.ok_of (i := Tryd.t90) Tryd.underlying90 Tryd.type90 rfl (by kernel_rfl)
  · cases h; exact ATy.ok_of (i := Tryd.t92) Tryd.underlying92 Tryd.type92 rfl (by kernel_rfl)
  · cases h; exact ATy.ok_of (i := Tryd.t93) Tryd.underlying93 Tryd.type93 rfl (by kernel_rfl)
  · cases h; exact ATy.ok_of (i := Tryd.t94) Tryd.underlying94 Tryd.type94 rfl (by kernel_rfl)
  · cases h; exact ATy.ok_of (i := Tryd.t95) Tryd.underlying95 Tryd.type95 rfl (by kernel_rfl)
  · cases h; exact ATy.ok_of (i := Tryd.t96) Tryd.underlying96 Tryd.type96 rfl (by kernel_rfl)
  · cases h; exact ATy.ok_of (i := Tryd.t97) Tryd.underlying97 Tryd.type97 rfl (by kernel_rfl)
  · cases h; exact ATy.ok_of (i := Tryd.t98) Tryd.underlying98 Tryd.type98 rfl (by kernel_rfl)
  · cases h; exact ATy.ok_of (i := Tryd.t99) Tryd.underlying99 Tryd.type99 rfl (by kernel_rfl)
  · cases h; exact ATy.ok_of (i := Tryd.t100) Tryd.underlying100 Tryd.type100 rfl (by kernel_rfl)
  · cases h; exact ATy.ok_of (i := Tryd.t101) Tryd.underlying101 Tryd.type101 rfl (by kernel_rfl)
  · cases h; exact ATy.ok_of (i := Tryd.t102) Tryd.underlying102 Tryd.type102 rfl (by kernel_rfl)
  · cases h; exact ATy.ok_of (i := Tryd.t103) Tryd.underlying103 Tryd.type103 rfl (by kernel_rfl)
  · cases h; exact ATy.ok_of (i := Tryd.t104) Tryd.underlying104 Tryd.type104 rfl (by kernel_rfl)
  · cases h; exact ATy.ok_of (i := Tryd.t106) Tryd.underlying106 Tryd.type106 rfl (by kernel_rfl)
  · cases h; exact ATy.ok_of (i := Tryd.t107) Tryd.underlying107 Tryd.type107 rfl (by kernel_rfl)
  · cases h; exact ATy.ok_of (i := Tryd.t108) Tryd.underlying108 Tryd.type108 rfl (by kernel_rfl)
  · cases h; exact ATy.ok_of (i := Tryd.t109) Tryd.underlying109 Tryd.type109 rfl (by kernel_rfl)
  · cases h; exact ATy.ok_of (i := Tryd.t110) Tryd.underlying110 Tryd.type110 rfl (by kernel_rfl)
  · cases h; exact ATy.ok_of (i := Tryd.t111) Tryd.underlying111 Tryd.type111 rfl (by kernel_rfl)
  · cases h; exact ATy.ok_of (i := Tryd.t112) Tryd.underlying112 Tryd.type112 rfl (by kernel_rfl)
  · cases h; exact ATy.ok_of (i := Tryd.t113) Tryd.underlying113 Tryd.type113 rfl (by kernel_rfl)
  · cases h; exact ATy.ok_of (i := Tryd.t114) Tryd.underlying114 Tryd.type114 rfl (by kernel_rfl)
  · cases h; exact ATy.ok_of (i := Tryd.t115) Tryd.underlying115 Tryd.type115 rfl (by kernel_rfl)
  · cases h; exact ATy.ok_of (i := Tryd.t117) Tryd.underlying117 Tryd.type117 rfl (by kernel_rfl)
  · cases h; exact ATy.ok_of (i := Tryd.t118) Tryd.underlying118 Tryd.type118 rfl (by kernel_rfl)
  · cases h; exact ATy.ok_of (i := Tryd.t119) Tryd.underlying119 Tryd.type119 rfl (by kernel_rfl)
  · cases h; exact ATy.ok_of (i := Tryd.t121) Tryd.underlying121 Tryd.type121 rfl (by kernel_rfl)
  · cases h; exact ATy.ok_of (i := Tryd.t122) Tryd.underlying122 Tryd.type122 rfl (by kernel_rfl)
  · cases h; exact ATy.ok_of (i := Tryd.t123) Tryd.underlying123 Tryd.type123 rfl (by kernel_rfl)
  · cases h; exact ATy.ok_of (i := Tryd.t124) Tryd.underlying124 Tryd.type124 rfl (by kernel_rfl)
  · cases h; exact ATy.ok_of (i := Tryd.t125) Tryd.underlying125 Tryd.type125 rfl (by kernel_rfl)
  · cases h; exact ATy.ok_of (i := Tryd.t126) Tryd.underlying126 Tryd.type126 rfl (by kernel_rfl)
  · cases h; exact ATy.ok_of (i := Tryd.t127) Tryd.underlying127 Tryd.type127 rfl (by kernel_rfl)
  · cases h; exact ATy.ok_of (i := Tryd.t128) Tryd.underlying128 Tryd.type128 rfl (by kernel_rfl)
  · cases h; exact ATy.ok_of (i := Tryd.t129) Tryd.underlying129 Tryd.type129 rfl (by kernel_rfl)
  · cases h; exact ATy.ok_of (i := Tryd.t130) Tryd.underlying130 Tryd.type130 rfl (by kernel_rfl)
  · cases h; exact ATy.ok_of (i := Tryd.t131) Tryd.underlying131 Tryd.type131 rfl (by kernel_rfl)
  · cases h; exact ATy.ok_of (i := Tryd.t132) Tryd.underlying132 Tryd.type132 rfl (by kernel_rfl)
  · cases h; exact ATy.ok_of (i := Tryd.t133) Tryd.underlying133 Tryd.type133 rfl (by kernel_rfl)
  · cases h; exact ATy.ok_of (i := Tryd.t134) Tryd.underlying134 Tryd.type134 rfl (by kernel_rfl)
  · cases h; exact ATy.ok_of (i := Tryd.t135) Tryd.underlying135 Tryd.type135 rfl (by kernel_rfl)
  · cases h; exact ATy.ok_of (i := Tryd.t136) Tryd.underlying136 Tryd.type136 rfl (by kernel_rfl)
  · cases h; exact ATy.ok_of (i := Tryd.t138) Tryd.underlying138 Tryd.type138 rfl (by kernel_rfl)
  · cases h; exact ATy.ok_of (i := Tryd.t139) Tryd.underlying139 Tryd.type139 rfl (by kernel_rfl)
  · cases h; exact ATy.ok_of (i := Tryd.t140) Tryd.underlying140 Tryd.type140 rfl (by kernel_rfl)
  · cases h; exact ATy.ok_of (i := Tryd.t141) Tryd.underlying141 Tryd.type141 rfl (by kernel_rfl)
  · cases h; exact ATy.ok_of (i := Tryd.t142) Tryd.underlying142 Tryd.type142 rfl (by kernel_rfl)
  · cases h; exact ATy.ok_of (i := Tryd.t143) Tryd.underlying143 Tryd.type143 rfl (by kernel_rfl)
  · cases h; exact ATy.ok_of (i := Tryd.t144) Tryd.underlying144 Tryd.type144 rfl (by kernel_rfl)
  · cases h; exact ATy.ok_of (i := Tryd.t145) Tryd.underlying145 Tryd.type145 rfl (by kernel_rfl)
  · cases h; exact ATy.ok_of (i := Tryd.t146) Tryd.underlying146 Tryd.type146 rfl (by kernel_rfl)
  · cases h; exact ATy.ok_of (i := Tryd.t147) Tryd.underlying147 Tryd.type147 rfl (by kernel_rfl)
  · cases h; exact ATy.ok_of (i := Tryd.t148) Tryd.underlying148 Tryd.type148 rfl (by kernel_rfl)
  · cases h; exact ATy.ok_of (i := Tryd.t149) Tryd.underlying149 Tryd.type149 rfl (by kernel_rfl)
  · cases h; exact ATy.ok_of (i := Tryd.t150) Tryd.underlying150 Tryd.type150 rfl (by kernel_rfl)
  · cases h; exact ATy.ok_of (i := Tryd.t151) Tryd.underlying151 Tryd.type151 rfl (by kernel_rfl)
  · cases h; exact ATy.ok_of (i := Tryd.t152) Tryd.underlying152 Tryd.type152 rfl (by kernel_rfl)
  · cases h; exact ATy.ok_of (i := Tryd.t153) Tryd.underlying153 Tryd.type153 rfl (by kernel_rfl)
  · cases h; exact ATy.ok_of (i := Tryd.t154) Tryd.underlying154 Tryd.type154 rfl (by kernel_rfl)
  · cases h; exact ATy.ok_of (i := Tryd.t155) Tryd.underlying155 Tryd.type155 rfl (by kernel_rfl)
  · cases h; exact ATy.ok_of (i := Tryd.t156) Tryd.underlying156 Tryd.type156 rfl (by kernel_rfl)
  · cases h; exact ATy.ok_of (i := Tryd.t158) Tryd.underlying158 Tryd.type158 rfl (by kernel_rfl)
  · cases h; exact ATy.ok_of (i := Tryd.t159) Tryd.underlying159 Tryd.type159 rfl (by kernel_rfl)
  · cases h; exact ATy.ok_of (i := Tryd.t160) Tryd.underlying160 Tryd.type160 rfl (by kernel_rfl)
  · cases h; exact ATy.ok_of (i := Tryd.t161) Tryd.underlying161 Tryd.type161 rfl (by kernel_rfl)
  · cases h; exact ATy.ok_of (i := Tryd.t162) Tryd.underlying162 Tryd.type162 rfl (by kernel_rfl)
  · cases h; exact ATy.ok_of (i := Tryd.t163) Tryd.underlying163 Tryd.type163 rfl (by kernel_rfl)
  · cases h; exact ATy.ok_of (i := Tryd.t164) Tryd.underlying164 Tryd.type164 rfl (by kernel_rfl)
  · cases h; exact ATy.ok_of (i := Tryd.t165) Tryd.underlying165 Tryd.type165 rfl (by kernel_rfl)
  · cases h; exact ATy.ok_of (i := Tryd.t166) Tryd.underlying166 Tryd.type166 rfl (by kernel_rfl)
  · cases h; exact ATy.ok_of (i := Tryd.t167) Tryd.underlying167 Tryd.type167 rfl (by kernel_rfl)
  · cases h; exact ATy.ok_of (i := Tryd.t168) Tryd.underlying168 Tryd.type168 rfl (by kernel_rfl)
  · cases h; exact ATy.ok_of (i := Tryd.t169) Tryd.underlying169 Tryd.type169 rfl (by kernel_rfl)
  · cases h; exact ATy.ok_of (i := Tryd.t170) Tryd.underlying170 Tryd.type170 rfl (by kernel_rfl)
  · cases h; exact ATy.ok_of (i := Tryd.t171) Tryd.underlying171 Tryd.type171 rfl (by kernel_rfl)
  · cases h; exact ATy.ok_of (i := Tryd.t172) Tryd.underlying172 Tryd.type172 rfl (by kernel_rfl)
  · cases h; exact ATy.ok_of (i := Tryd.t173) Tryd.underlying173 Tryd.type173 rfl (by kernel_rfl)
  · cases h; exact ATy.ok_of (i := Tryd.t174) Tryd.underlying174 Tryd.type174 rfl (by kernel_rfl)
  · cases h; exact ATy.ok_of (i := Tryd.t175) Tryd.underlying175 Tryd.type175 rfl (by kernel_rfl)
  · cases h; exact ATy.ok_of (i := Tryd.t176) Tryd.underlying176 Tryd.type176 rfl (by kernel_rfl)
  · cases h; exact ATy.ok_of (i := Tryd.t177) Tryd.underlying177 Tryd.type177 rfl (by kernel_rfl)
  · cases h; exact ATy.ok_of (i := Tryd.t178) Tryd.underlying178 Tryd.type178 rfl (by kernel_rfl)
  · cases h; exact ATy.ok_of (i := Tryd.t179) Tryd.underlying179 Tryd.type179 rfl (by kernel_rfl)
  · cases h; exact ATy.ok_of (i := Tryd.t180) Tryd.underlying180 Tryd.type180 rfl (by kernel_rfl)
  · cases h; exact ATy.ok_of (i := Tryd.t181) Tryd.underlying181 Tryd.type181 rfl (by kernel_rfl)
  · cases h; exact ATy.ok_of (i := Tryd.t184) Tryd.underlying184 Tryd.type184 rfl (by kernel_rfl)
  · cases h; exact ATy.ok_of (i := Tryd.t185) Tryd.underlying185 Tryd.type185 rfl (by kernel_rfl)
  · cases h; exact ATy.ok_of (i := Tryd.t186) Tryd.underlying186 Tryd.type186 rfl (by kernel_rfl)
  · cases h; exact ATy.ok_of (i := Tryd.t187) Tryd.underlying187 Tryd.type187 rfl (by kernel_rfl)
  · cases h; exact ATy.ok_of (i := Tryd.t188) Tryd.underlying188 Tryd.type188 rfl (by kernel_rfl)
  · cases h; exact ATy.ok_of (i := Tryd.t189) Tryd.underlying189 Tryd.type189 rfl (by kernel_rfl)
  · cases h; exact ATy.ok_of (i := Tryd.t190) Tryd.underlying190 Tryd.type190 rfl (by kernel_rfl)
  · cases h; exact ATy.ok_of (i := Tryd.t191) Tryd.underlying191 Tryd.type191 rfl (by kernel_rfl)
  · cases h; exact ATy.ok_of (i := Tryd.t192) Tryd.underlying192 Tryd.type192 rfl (by kernel_rfl)
  · cases h
noncomputable def fns : FuncId → Option Func
  | 7 => some Tryd.f7
  | 13 => some Tryd.f13
  | 14 => some Tryd.f14
  | 16 => some Tryd.f16
  | 19 => some Tryd.f19
  | 21 => some Tryd.f21
  | 23 => some Tryd.f23
  | 24 => some Tryd.f24
  | 25 => some Tryd.f25
  | 33 => some Tryd.f33
  | 35 => some Tryd.f35
  | 36 => some Tryd.f36
  | 37 => some Tryd.f37
  | 38 => some Tryd.f38
  | 39 => some Tryd.f39
  | 40 => some Tryd.f40
  | 41 => some Tryd.f41
  | 43 => some Tryd.f43
  | 47 => some Tryd.f47
  | 48 => some Tryd.f48
  | 49 => some Tryd.f49
  | 50 => some Tryd.f50
  | 51 => some Tryd.f51
  | 52 => some Tryd.f52
  | 60 => some Tryd.f60
  | 62 => some Tryd.f62
  | 63 => some Tryd.f63
  | 64 => some Tryd.f64
  | 65 => some Tryd.f65
  | 66 => some Tryd.f66
  | 67 => some Tryd.f67
  | 68 => some Tryd.f68
  | 69 => some Tryd.f69
  | 70 => some Tryd.f70
  | 71 => some Tryd.f71
  | 72 => some Tryd.f72
  | 73 => some Tryd.f73
  | 74 => some Tryd.f74
  | 75 => some Tryd.f75
  | 81 => some Tryd.f81
  | 82 => some Tryd.f82
  | 83 => some Tryd.f83
  | 84 => some Tryd.f84
  | 85 => some Tryd.f85
  | 86 => some Tryd.f86
  | 97 => some Tryd.f97
  | 98 => some Tryd.f98
  | 99 => some Tryd.f99
  | 100 => some Tryd.f100
  | 102 => some Tryd.f102
  | 103 => some Tryd.f103
  | 104 => some Tryd.f104
  | 105 => some Tryd.f105
  | 106 => some Tryd.f106
  | 107 => some Tryd.f107
  | 108 => some Tryd.f108
  | 109 => some Tryd.f109
  | 117 => some Tryd.f117
  | 118 => some Tryd.f118
  | 119 => some Tryd.f119
  | 120 => some Tryd.f120
  | 121 => some Tryd.f121
  | 122 => some Tryd.f122
  | 123 => some Tryd.f123
  | 124 => some Tryd.f124
  | 125 => some Tryd.f125
  | 126 => some Tryd.f126
  | 127 => some Tryd.f127
  | 128 => some Tryd.f128
  | 129 => some Tryd.f129
  | 130 => some Tryd.f130
  | 131 => some Tryd.f131
  | 132 => some Tryd.f132
  | 133 => some Tryd.f133
  | 134 => some Tryd.f134
  | 135 => some Tryd.f135
  | 136 => some Tryd.f136
  | 137 => some Tryd.f137
  | 138 => some Tryd.f138
  | 139 => some Tryd.f139
  | 140 => some Tryd.f140
  | 141 => some Tryd.f141
  | 142 => some Tryd.f142
  | 143 => some Tryd.f143
  | 144 => some Tryd.f144
  | 145 => some Tryd.f145
  | 146 => some Tryd.f146
  | 147 => some Tryd.f147
  | 148 => some Tryd.f148
  | 149 => some Tryd.f149
  | 150 => some Tryd.f150
  | 151 => some Tryd.f151
  | 152 => some Tryd.f152
  | 153 => some Tryd.f153
  | 154 => some Tryd.f154
  | 155 => some Tryd.f155
  | 156 => some Tryd.f156
  | 157 => some Tryd.f157
  | 165 => some Tryd.f165
  | 166 => some Tryd.f166
  | _ => none
theorem fns_ok : ∀ f fn, fns f = some fn → Tryd.prog.funcs[f]? = some fn ∧ (fn.name == "runtime.NumGoroutine") = false := by
  intro f fn h
  unfold fns at h
  split at h
  · cases h; exact ⟨Tryd.func7, by kernel_rfl⟩
  · cases h; exact ⟨Tryd.func13, by kernel_rfl⟩
  · cases h; exact ⟨Tryd.func14, by kernel_rfl⟩
  · cases h; exact ⟨Tryd.func16, by kernel_rfl⟩
  · cases h; exact ⟨Tryd.func19, by kernel_rfl⟩
  · cases h; exact ⟨Tryd.func21, by kernel_rfl⟩
  · cases h; exact ⟨Tryd.func23, by kernel_rfl⟩
  · cases h; exact ⟨Tryd.func24, by kernel_rfl⟩
  · cases h; exact ⟨Tryd.func25, by kernel_rfl⟩
  · cases h; exact ⟨Tryd.func33, by kernel_rfl⟩
  · cases h; exact ⟨Tryd.func35, by kernel_rfl⟩
  · cases h; exact ⟨Tryd.func36, by kernel_rfl⟩
  · cases h; exact ⟨Tryd.func37, by kernel_rfl⟩
  · cases h; exact ⟨Tryd.func38, by kernel_rfl⟩
  · cases h; exact ⟨Tryd.func39, by kernel_rfl⟩
  · cases h; exact ⟨Tryd.func40, by kernel_rfl⟩
  · cases h; exact ⟨Tryd.func41, by kernel_rfl⟩
  · cases h; exact ⟨Tryd.func43, by kernel_rfl⟩
  · cases h; exact ⟨Tryd.func47, by kernel_rfl⟩
  · cases h; exact ⟨Tryd.func48, by kernel_rfl⟩
  · cases h; exact ⟨Tryd.func49, by kernel_rfl⟩
  · cases h; exact ⟨Tryd.func50, by kernel_rfl⟩
  · cases h; exact ⟨Tryd.func51, by kernel_rfl⟩
  · cases h; exact ⟨Tryd.func52, by kernel_rfl⟩
  · cases h; exact ⟨Tryd.func60, by kernel_rfl⟩
  · cases h; exact ⟨Tryd.func62, by kernel_rfl⟩
  · cases h; exact ⟨Tryd.func63, by kernel_rfl⟩
  · cases h; exact ⟨Tryd.func64, by kernel_rfl⟩
  · cases h; exact ⟨Tryd.func65, by kernel_rfl⟩
  · cases h; exact ⟨Tryd.func66, by kernel_rfl⟩
  · cases h; exact ⟨Tryd.func67, by kernel_rfl⟩
  · cases h; exact ⟨Tryd.func68, by kernel_rfl⟩
  · cases h; exact ⟨Tryd.func69, by kernel_rfl⟩
  · cases h; exact ⟨Tryd.func70, by kernel_rfl⟩
  · cases h; exact ⟨Tryd.func71, by kernel_rfl⟩
  · cases h; exact ⟨Tryd.func72, by kernel_rfl⟩
  · cases h; exact ⟨Tryd.func73, by kernel_rfl⟩
  · cases h; exact ⟨Tryd.func74, by kernel_rfl⟩
  · cases h; exact ⟨Tryd.func75, by kernel_rfl⟩
  · cases h; exact ⟨Tryd.func81, by kernel_rfl⟩
  · cases h; exact ⟨Tryd.func82, by kernel_rfl⟩
  · cases h; exact ⟨Tryd.func83, by kernel_rfl⟩
  · cases h; exact ⟨Tryd.func84, by kernel_rfl⟩
  · cases h; exact ⟨Tryd.func85, by kernel_rfl⟩
  · cases h; exact ⟨Tryd.func86, by kernel_rfl⟩
  · cases h; exact ⟨Tryd.func97, by kernel_rfl⟩
  · cases h; exact ⟨Tryd.func98, by kernel_rfl⟩
  · cases h; exact ⟨Tryd.func99, by kernel_rfl⟩
  · cases h; exact ⟨Tryd.func100, by kernel_rfl⟩
  · cases h; exact ⟨Tryd.func102, by kernel_rfl⟩
  · cases h; exact ⟨Tryd.func103, by kernel_rfl⟩
  · cases h; exact ⟨Tryd.func104, by kernel_rfl⟩
  · cases h; exact ⟨Tryd.func105, by kernel_rfl⟩
  · cases h; exact ⟨Tryd.func106, by kernel_rfl⟩
  · cases h; exact ⟨Tryd.func107, by kernel_rfl⟩
  · cases h; exact ⟨Tryd.func108, by kernel_rfl⟩
  · cases h; exact ⟨Tryd.func109, by kernel_rfl⟩
  · cases h; exact ⟨Tryd.func117, by kernel_rfl⟩
  · cases h; exact ⟨Tryd.func118, by kernel_rfl⟩
  · cases h; exact ⟨Tryd.func119, by kernel_rfl⟩
  · cases h; exact ⟨Tryd.func120, by kernel_rfl⟩
  · cases h; exact ⟨Tryd.func121, by kernel_rfl⟩
  · cases h; exact ⟨Tryd.func122, by kernel_rfl⟩
  · cases h; exact ⟨Tryd.func123, by kernel_rfl⟩
  · cases h; exact ⟨Tryd.func124, by kernel_rfl⟩
  · cases h; exact ⟨Tryd.func125, by kernel_rfl⟩
  · cases h; exact ⟨Tryd.func126, by kernel_rfl⟩
  · cases h; exact ⟨Tryd.func127, by kernel_rfl⟩
  · cases h; exact ⟨Tryd.func128, by kernel_rfl⟩
  · cases h; exact ⟨Tryd.func129, by kernel_rfl⟩
  · cases h; exact ⟨Tryd.func130, by kernel_rfl⟩
  · cases h; exact ⟨Tryd.func131, by kernel_rfl⟩
  · cases h; exact ⟨Tryd.func132, by kernel_rfl⟩
  · cases h; exact ⟨Tryd.func133, by kernel_rfl⟩
  · cases h; exact ⟨Tryd.func134, by kernel_rfl⟩
  · cases h; exact ⟨Tryd.func135, by kernel_rfl⟩
  · cases h; exact ⟨Tryd.func136, by kernel_rfl⟩
  · cases h; exact ⟨Tryd.func137, by kernel_rfl⟩
  · cases h; exact ⟨Tryd.func138, by kernel_rfl⟩
  · cases h; exact ⟨Tryd.func139, by kernel_rfl⟩
  · cases h; exact ⟨Tryd.func140, by kernel_rfl⟩
  · cases h; exact ⟨Tryd.func141, by kernel_rfl⟩
  · cases h; exact ⟨Tryd.func142, by kernel_rfl⟩
  · cases h; exact ⟨Tryd.func143, by kernel_rfl⟩
  · cases h; exact ⟨Tryd.func144, by kernel_rfl⟩
  · cases h; exact ⟨Tryd.func145, by kernel_rfl⟩
  · cases h; exact ⟨Tryd.func146, by kernel_rfl⟩
  · cases h; exact ⟨Tryd.func147, by kernel_rfl⟩
  · cases h; exact ⟨Tryd.func148, by kernel_rfl⟩
  · cases h; exact ⟨Tryd.func149, by kernel_rfl⟩
  · cases h; exact ⟨Tryd.func150, by kernel_rfl⟩
  · cases h; exact ⟨Tryd.func151, by kernel_rfl⟩
  · cases h; exact ⟨Tryd.func152, by kernel_rfl⟩
  · cases h; exact ⟨Tryd.func153, by kernel_rfl⟩
  · cases h; exact ⟨Tryd.func154, by kernel_rfl⟩
  · cases h; exact ⟨Tryd.func155, by kernel_rfl⟩
  · cases h; exact ⟨Tryd.func156, by kernel_rfl⟩
  · cases h; exact ⟨Tryd.func157, by kernel_rfl⟩
  · cases h; exact ⟨Tryd.func165, by kernel_rfl⟩
  · cases h; exact ⟨Tryd.func166, by kernel_rfl⟩
  · cases h
theorem mixed : Tryd.prog.follows .mixedOrders = true := by kernel_rfl
noncomputable def glob : Nat → Option AV
  | 1 => some (.arr 32 (.int .u8) [0, 1, 28, 2, 29, 14, 24, 3, 30, 22, 20, 15, 25, 17, 4, 8, 31, 27, 13, 23, 21, 19, 16, 7, 26, 12, 18, 6, 11, 5, 10, 9])
  | 2 => some (.arr 64 (.int .u8) [0, 1, 56, 2, 57, 49, 28, 3, 61, 58, 42, 50, 38, 29, 17, 4, 62, 47, 59, 36, 45, 43, 51, 22, 53, 39, 33, 30, 24, 18, 12, 5, 63, 55, 48, 27, 60, 41, 37, 16, 46, 35, 44, 21, 52, 32, 23, 11, 54, 26, 40, 15, 34, 20, 31, 10, 25, 14, 19, 9, 13, 8, 7, 6])
  | _ => none
def sched : FuncId → Nat → Option Sch
  | 14, 8 => some (.one 0 (.one 1 (.one 3 (.two 2 4 (.one 5 (.one 6 (.one 4 (.one 7 .fin)))) (.one 2 (.one 5 (.one 6 (.one 7 .fin))))))))
  | 14, 4 => some (.one 0 (.one 1 (.one 2 (.one 3 (.one 4 (.one 5 (.two 6 7 (.one 7 (.one 8 (.one 9 .fin))) (.one 6 (.one 8 (.one 9 .fin))))))))))
  | 25, 14 => some (.one 0 (.one 1 (.one 2 (.one 3 (.one 4 (.one 5 (.one 6 (.one 7 (.one 8 (.one 9 (.one 10 (.one 11 (.two 12 13 (.one 13 (.one 14 (.one 15 (.one 16 (.one 17 .fin))))) (.one 12 (.one 14 (.one 15 (.one 16 (.one 17 .fin))))))))))))))))))
  | 39, 7 => some (.one 0 (.one 1 (.one 2 (.one 3 (.one 4 (.one 5 (.one 7 (.one 8 (.one 9 (.one 10 (.one 11 (.one 6 (.one 12 (.one 13 (.one 14 .fin)))))))))))))))
  | 44, 6 => some (.one 0 (.one 1 (.one 2 (.one 3 (.one 4 (.one 5 (.one 6 (.one 8 (.one 9 (.one 10 (.one 11 (.one 12 (.one 13 (.one 7 (.one 14 (.one 15 (.one 16 .fin)))))))))))))))))
  | 15, 7 => some (.one 0 (.one 1 (.one 2 (.one 3 (.one 4 (.one 5 (.two 6 7 (.one 7 (.one 8 (.one 9 .fin))) (.one 6 (.one 8 (.one 9 .fin))))))))))
  | _, _ => none
def split : FuncId → Nat → Option (Nat × List Step × Nat)
  | 39, 21 => some (10, [], 5)
  | _, _ => none
def exact : FuncId → Bool
  | 41 => true
  | 74 => true
  | _ => false
def apart : FuncId → Bool
  | _ => false
theorem apart_ok : ∀ f, apart f = true → ApartOk Tryd.prog f := by
  intro f h
  unfold apart at h
  split at h
  · cases h
noncomputable def env (sp : FuncId → Option Spec) (mk : FuncId → Nat → Option (List Nat)) : Env := { P := Tryd.prog, ty := ty, fns := fns, glob := glob, spec := sp, mask := mk, exact := exact, apart := apart, split := split, sched := sched }
noncomputable abbrev env0 : Env := env (fun _ => none) (fun _ _ => none)
theorem valid (sp : FuncId → Option Spec) (mk : FuncId → Nat → Option (List Nat)) : (env sp mk).Valid := ⟨ty_ok, fns_ok, mixed, apart_ok⟩
end Go.Eng.RE
end
section
/- The two tables that encode's laws lay. -/
namespace Go.Eng.RE
open Go.Proofs Go.Eng Go.RowKit
def tab32 : List Int := [0, 1, 28, 2, 29, 14, 24, 3, 30, 22, 20, 15, 25, 17, 4, 8, 31, 27, 13, 23, 21, 19, 16, 7, 26, 12, 18, 6, 11, 5, 10, 9]
def tab64 : List Int := [0, 1, 56, 2, 57, 49, 28, 3, 61, 58, 42, 50, 38, 29, 17, 4, 62, 47, 59, 36, 45, 43, 51, 22, 53, 39, 33, 30, 24, 18, 12, 5, 63, 55, 48, 27, 60, 41, 37, 16, 46, 35, 44, 21, 52, 32, 23, 11, 54, 26, 40, 15, 34, 20, 31, 10, 25, 14, 19, 9, 13, 8, 7, 6]
theorem laid_two {W : World} (hL : laidMet Tryd.prog [("math/bits.deBruijn32tab", Lib.tabData .u8 tab32), ("math/bits.deBruijn64tab", Lib.tabData .u8 tab64)] W) : GlobRep env0 ⟨W, protAll W, []⟩ := by
  have h := Lib.tabIs_of_head (g := 1) (by kernel_rfl) (by kernel_rfl) Tryd.underlying159 Tryd.underlying5 (by kernel_rfl) (by kernel_rfl) hL
  have h' := Lib.tabIs_of_head (g := 2) (by kernel_rfl) (by kernel_rfl) Tryd.underlying160 Tryd.underlying5 (by kernel_rfl) (by kernel_rfl) (laidMet.tail hL)
  have hg : Tryd.prog.globalNamed "math/bits.deBruijn32tab" = some 1 := by kernel_rfl
  have hg' : Tryd.prog.globalNamed "math/bits.deBruijn64tab" = some 2 := by kernel_rfl
  unfold Lib.TabIs World.var? at h h'
  rw [hg] at h
  rw [hg'] at h'
  simp only [Option.bind_some] at h h'
  intro g v e
  have e : glob g = some v := e
  unfold glob at e
  split at e
  · cases e
    split at h
    · rename_i cs' t fz hh
      simp only [Option.some.injEq] at h
      subst h
      refine ⟨(tab32.map fun z => Value.int .u8 z).toArray, t, fz, tab32.map fun z => Value.int .u8 z, hh, fun ι' => ground_ok ι' _ _ (by kernel_rfl), ?_⟩
      intro j v hj
      simpa using hj
    · cases h
  · cases e
    split at h'
    · rename_i cs' t fz hh
      simp only [Option.some.injEq] at h'
      subst h'
      refine ⟨(tab64.map fun z => Value.int .u8 z).toArray, t, fz, tab64.map fun z => Value.int .u8 z, hh, fun ι' => ground_ok ι' _ _ (by kernel_rfl), ?_⟩
      intro j v hj
      simpa using hj
    · cases h'
  · cases e
end Go.Eng.RE
end
section
/- What decode's own functions are, in closed form. -/
namespace Go.Eng.RE
open Go.Eng
noncomputable section
def fn113 (x : Int × Int) : Int := imul .i64 (iconv .i64 (iand .u8 (ishr .u8 x.2 x.1) 1)) 8
def fn114 (x : Int × Int) : DO := (2, (0, ((imax x.1 (-1)), ((-1), (1, (x.2, (false, 0)))))))
def tree93 (x : DO) : Tr Bool := .ite ((ieq x.1 1) == true) (.ite ((ile 4 x.2.1) == true) (.ret (ilt x.2.1 8)) (.ret false)) (.ret false)
def fn93 (x : DO) : Bool := (tree93 x).val
def accL (d : List Int) : Nat → Nat → Int → Int
  | 0, _, v => v
  | n + 1, i, v => accL d n (i + 1) (ior .u64 v (ishl .u64 (iconv .u64 (rdc (.int .u8) d i)) ((8 * i : Nat) : Int)))
def numL (d : List Int) : Int := accL d d.length 0 0
def fn94 (d : List Int) : Int := numL d
theorem fn94_ok {d : List Int} (_ : d.length ≤ 8) : fn94 d = numL d := rfl
def fn116 (x : Int) : Int := imin (imax x 1) 8
def fn95 (x : Int × Int) : Int := iconv .u64 (ishr .i64 (iconv .i64 (ishl .u64 x.1 (isub .i64 64 (imul .i64 8 (fn116 x.2))))) (isub .i64 64 (imul .i64 8 (fn116 x.2))))
def fn89 (x : Int) : Bool := ieq (ishr .u8 x 4) 4
abbrev D4 : Type := (DO × (DO × (DO × DO)))
def zO4 : DO := (0, (0, (0, (0, (0, (0, (false, 0)))))))
def fn194 (_ : D4) : DO × DO := (zO4, zO4)
def fn195 (x : D4) : DO × DO := (x.2.1, x.1)
def fn196 (x : D4) : DO × DO := (x.1, x.2.1)
def fn197 (x : D4) : DO × DO := (x.2.1, zO4)
def fn198 (x : D4) : DO × DO := (x.2.1, x.2.2.2)
def fn199 (x : D4) : DO × DO := (x.2.1, (1, (1, ((-1), ((-1), (0, (0, (false, 0))))))))
def fn200 (x : D4) : DO × DO := (x.2.2.1, zO4)
def fn201 (x : D4) : DO × DO := x.2.2
def fn202 (x : D4) : DO × DO := (zO4, x.2.2.2)
end
end Go.Eng.RE
end
section
/- Functions of this program, written out. -/
namespace Go.Eng.RE
open Go.Proofs Go.Eng
inductive J117 where
 | h0 (v2 : Int) (v3 : Int)
noncomputable def tree117 (x : ((List Int) × Int)) : Tr (J117 ⊕ Int) :=
  .ret (.inl (.h0 (x.1.length : Int) 0))
noncomputable def step117 (x : ((List Int) × Int)) : J117 → Tr (J117 ⊕ Int)
 | .h0 v2 v3 =>
 .ite (ilt v3 v2) (
 .need ((0 : Int) ≤ v3) <|
 .need (v3 < (x.1.length : Int)) <|
 .ite (ieq x.2 (rdc (.int .u8) x.1 (v3).toNat)) (
 .ret (.inr v3)) (
 .ret (.inl (.h0 v2 (iadd .i64 v3 1))))) (
 .ret (.inr (-1)))
noncomputable def head117 (x : ((List Int) × Int)) : J117 → Head
 | .h0 v2 v3 =>
 { fr := { id := 117, kind := .top, T := [(.fsl (.int .u8) x.1), (.int .u8 x.2)] ++ List.replicate 5 .any ++ [(.int .i64 v2), (.int .i64 v3)] ++ List.replicate 10 .any, items := [.lp (subc [1, 0, 1, 0, 0] (bodyOf Tryd.f117)), .blk 0, .code (subc [1, 1] (bodyOf Tryd.f117))], D := [], base := 0 },
   stk := [],
   H := [] }
noncomputable def stop117 : FuncId → Nat → Nat → Option Cut
  | 117, 0, 0 => some { tmps := [0, 1, 7, 8], loops := [], dead := [], stk := [] }
  | _, _, _ => none
noncomputable def fn117 (x : ((List Int) × Int)) : Int := endVal (TC.dflt (.int .i64)) (step117 x) (tree117 x)
def pre117 (x : ((List Int) × Int)) : Prop := ∃ r, Ends (step117 x) r (tree117 x)
noncomputable def spec117 : Spec := { dom := (.st (.slice (.int .u8)) (.st1 (.int .u8))), cod := (.int .i64), n := 1, pre := pre117, f := fn117 }
noncomputable def need117 : FuncId → Option Spec
  | _ => none
theorem need117_ok : ∀ f sp, need117 f = some sp → SpecOk env0 f sp := by
  intro f sp h
  unfold need117 at h
  split at h
  · cases h
section
variable (W : Cfg) (Q : Int → Prop) (x : ((List Int) × Int))
theorem run117 : run (env need117 (fun _ _ => none)) stop117 (finS spec117 Q) W 100000 (startFr 117 Tryd.f117 (bodyOf Tryd.f117) (argsOf (.st (.slice (.int .u8)) (.st1 (.int .u8))) x)) [] [] = (tree117 x).wp (kont W Q (head117 x)) := by kernel_rfl
theorem run117h0 (v2 v3 : Int) : run (env need117 (fun _ _ => none)) stop117 (finS spec117 Q) W 100000 (head117 x (.h0 v2 v3)).fr.enter (head117 x (.h0 v2 v3)).stk (head117 x (.h0 v2 v3)).H = (step117 x (.h0 v2 v3)).wp (kont W Q (head117 x)) := by kernel_rfl
end
theorem runs117 (W : Cfg) (Q : Int → Prop) (x : ((List Int) × Int)) : ∀ j : J117, run (env need117 (fun _ _ => none)) stop117 (finS spec117 Q) W 100000 (head117 x j).fr.enter (head117 x j).stk (head117 x j).H = (step117 x j).wp (kont W Q (head117 x))
 | .h0 v2 v3 => run117h0 W Q x v2 v3
theorem ok117 : SpecOk env0 117 spec117 := SpecOk.env rfl (fun _ _ h => h) (spec_of_trees (E := (env need117 (fun _ _ => none))) (sp := spec117) (valid _ _) (fun f sp h => SpecOk.env rfl (fun _ _ h => h) (need117_ok f sp h)) (fn := Tryd.f117) (c := (bodyOf Tryd.f117)) (by kernel_rfl) (by kernel_rfl) tree117 step117 head117 run117 runs117 (fun _ h => endVal_ends h))
noncomputable def tree60 (x : Int) : Tr DO :=
  .ret (1, (x, ((-1), ((-1), (0, (0, (false, 0)))))))
noncomputable def fn60 (x : Int) : DO := (tree60 x).val
def pre60 (x : Int) : Prop := (tree60 x).ok
noncomputable def spec60 : Spec := { dom := (.st1 (.int .i64)), cod := CO, n := 1, pre := pre60, f := fn60 }
noncomputable def need60 : FuncId → Option Spec
  | _ => none
theorem need60_ok : ∀ f sp, need60 f = some sp → SpecOk env0 f sp := by
  intro f sp h
  unfold need60 at h
  split at h
  · cases h
section
variable (W : Cfg) (Q : DO → Prop) (x : Int)
theorem run60 : run (env need60 (fun _ _ => none)) (fun _ _ _ => none) (finS spec60 Q) W 100000 (startFr 60 Tryd.f60 (bodyOf Tryd.f60) (argsOf (.st1 (.int .i64)) x)) [] [] = (tree60 x).wp Q := by kernel_rfl
end
theorem ok60 : SpecOk env0 60 spec60 := SpecOk.env rfl (fun _ _ h => h) (spec_of_tree (E := (env need60 (fun _ _ => none))) (sp := spec60) (valid _ _) (fun f sp h => SpecOk.env rfl (fun _ _ h => h) (need60_ok f sp h)) (fn := Tryd.f60) (c := (bodyOf Tryd.f60)) (by kernel_rfl) (by kernel_rfl) tree60 run60 (fun _ h => Tr.gives_val h))
noncomputable def tree100 (x : DO) : Tr Bool :=
  let y0 : (Int × (Int × (Int × (Bool × Int)))) := x.2.2.2
  .ite (ilt y0.1 0) (
 let y1 := y0.2.1
 .ret (ieq y1 1)) (
 let y2 := y0.2.1
 .ite ((ile 1 y2) == true) (
 .ite ((ile y2 8) == true) (
 .ret (ieq (iand .i64 y2 (isub .i64 y2 1)) 0)) (
 .ret false)) (
 .ret false))
noncomputable def fn100 (x : DO) : Bool := (tree100 x).val
def pre100 (x : DO) : Prop := (tree100 x).ok
noncomputable def spec100 : Spec := { dom := (.st1 CO), cod := .bool, n := 1, pre := pre100, f := fn100 }
noncomputable def need100 : FuncId → Option Spec
  | _ => none
theorem need100_ok : ∀ f sp, need100 f = some sp → SpecOk env0 f sp := by
  intro f sp h
  unfold need100 at h
  split at h
  · cases h
section
variable (W : Cfg) (Q : Bool → Prop) (x : DO)
theorem run100 : run (env need100 (fun _ _ => none)) (fun _ _ _ => none) (finS spec100 Q) W 100000 (startFr 100 Tryd.f100 (bodyOf Tryd.f100) (argsOf (.st1 CO) x)) [] [] = (tree100 x).wp Q := by kernel_rfl
end
theorem ok100 : SpecOk env0 100 spec100 := SpecOk.env rfl (fun _ _ h => h) (spec_of_tree (E := (env need100 (fun _ _ => none))) (sp := spec100) (valid _ _) (fun f sp h => SpecOk.env rfl (fun _ _ h => h) (need100_ok f sp h)) (fn := Tryd.f100) (c := (bodyOf Tryd.f100)) (by kernel_rfl) (by kernel_rfl) tree100 run100 (fun _ h => Tr.gives_val h))
noncomputable def tree67 (x : DO) : Tr Bool :=
  .ite (ieq x.1 1) (
 let y0 := x.2.1
 .ite ((ile 0 y0) == true) (
 .ite ((ilt y0 16) == true) (
 .need (pre60 y0) <|
 .ret (eqD CO x (fn60 y0))) (
 .ret false)) (
 .ret false)) (
 .ite ((ine x.1 2) == false) (
 let y1 := x.2.1
 .ite ((ine y1 0) == false) (
 let y2 := x.2.2
 let y3 := y2.2
 let y4 := y3.2
 let y5 := y4.2
 let y6 := y5.2
 .ite ((ine y6.2 0) == false) (
 let y7 := y5.1
 .ite (ine (iconv .i64 (iconv .i32 y7)) y7) (
 .ret false) (
 .ite y6.1 (
 let y8 := y2.1
 .ite ((ieq y8 (-1)) == true) (
 let y9 := y3.1
 .ite ((ieq y9 (-1)) == true) (
 .ret (ieq y4.1 1)) (
 .ret false)) (
 .ret false)) (
 let y10 := y2.1
 .ite ((ile (-1) y10) == true) (
 .ite ((ilt y10 16) == true) (
 let y11 := y3.1
 .ite ((ile (-1) y11) == true) (
 .ite ((ilt y11 16) == true) (
 .ite ((ine y11 4) == true) (
 .need (pre100 x) <|
 .ret (fn100 x)) (
 .ret false)) (
 .ret false)) (
 .ret false)) (
 .ret false)) (
 .ret false)))) (
 .ret false)) (
 .ret false)) (
 .ret false))
noncomputable def fn67 (x : DO) : Bool := (tree67 x).val
def pre67 (x : DO) : Prop := (tree67 x).ok
noncomputable def spec67 : Spec := { dom := (.st1 CO), cod := .bool, n := 1, pre := pre67, f := fn67 }
noncomputable def need67 : FuncId → Option Spec
  | 60 => some spec60
  | 100 => some spec100
  | _ => none
theorem need67_ok : ∀ f sp, need67 f = some sp → SpecOk env0 f sp := by
  intro f sp h
  unfold need67 at h
  split at h
  · cases h; exact ok60
  · cases h; exact ok100
  · cases h
section
variable (W : Cfg) (Q : Bool → Prop) (x : DO)
theorem run67 : run (env need67 (fun _ _ => none)) (fun _ _ _ => none) (finS spec67 Q) W 100000 (startFr 67 Tryd.f67 (bodyOf Tryd.f67) (argsOf (.st1 CO) x)) [] [] = (tree67 x).wp Q := by kernel_rfl
end
theorem ok67 : SpecOk env0 67 spec67 := SpecOk.env rfl (fun _ _ h => h) (spec_of_tree (E := (env need67 (fun _ _ => none))) (sp := spec67) (valid _ _) (fun f sp h => SpecOk.env rfl (fun _ _ h => h) (need67_ok f sp h)) (fn := Tryd.f67) (c := (bodyOf Tryd.f67)) (by kernel_rfl) (by kernel_rfl) tree67 run67 (fun _ h => Tr.gives_val h))
noncomputable def tree119 (x : DO) : Tr Bool :=
  .need (pre67 x) <|
  .ret (fn67 x)
noncomputable def fn119 (x : DO) : Bool := (tree119 x).val
def pre119 (x : DO) : Prop := (tree119 x).ok
noncomputable def spec119 : Spec := { dom := (.st1 CO), cod := .bool, n := 1, pre := pre119, f := fn119 }
noncomputable def need119 : FuncId → Option Spec
  | 67 => some spec67
  | _ => none
theorem need119_ok : ∀ f sp, need119 f = some sp → SpecOk env0 f sp := by
  intro f sp h
  unfold need119 at h
  split at h
  · cases h; exact ok67
  · cases h
section
variable (W : Cfg) (Q : Bool → Prop) (x : DO)
theorem run119 : run (env need119 (fun _ _ => none)) (fun _ _ _ => none) (finS spec119 Q) W 100000 (startFr 119 Tryd.f119 (bodyOf Tryd.f119) (argsOf (.st1 CO) x)) [] [] = (tree119 x).wp Q := by kernel_rfl
end
theorem ok119 : SpecOk env0 119 spec119 := SpecOk.env rfl (fun _ _ h => h) (spec_of_tree (E := (env need119 (fun _ _ => none))) (sp := spec119) (valid _ _) (fun f sp h => SpecOk.env rfl (fun _ _ h => h) (need119_ok f sp h)) (fn := Tryd.f119) (c := (bodyOf Tryd.f119)) (by kernel_rfl) (by kernel_rfl) tree119 run119 (fun _ h => Tr.gives_val h))
noncomputable def tree120 (x : DO) : Tr Bool :=
  .ite ((ieq x.1 1) == true) (
 .need (pre67 x) <|
 .ret (fn67 x)) (
 .ret false)
noncomputable def fn120 (x : DO) : Bool := (tree120 x).val
def pre120 (x : DO) : Prop := (tree120 x).ok
noncomputable def spec120 : Spec := { dom := (.st1 CO), cod := .bool, n := 1, pre := pre120, f := fn120 }
noncomputable def need120 : FuncId → Option Spec
  | 67 => some spec67
  | _ => none
theorem need120_ok : ∀ f sp, need120 f = some sp → SpecOk env0 f sp := by
  intro f sp h
  unfold need120 at h
  split at h
  · cases h; exact ok67
  · cases h
section
variable (W : Cfg) (Q : Bool → Prop) (x : DO)
theorem run120 : run (env need120 (fun _ _ => none)) (fun _ _ _ => none) (finS spec120 Q) W 100000 (startFr 120 Tryd.f120 (bodyOf Tryd.f120) (argsOf (.st1 CO) x)) [] [] = (tree120 x).wp Q := by kernel_rfl
end
theorem ok120 : SpecOk env0 120 spec120 := SpecOk.env rfl (fun _ _ h => h) (spec_of_tree (E := (env need120 (fun _ _ => none))) (sp := spec120) (valid _ _) (fun f sp h => SpecOk.env rfl (fun _ _ h => h) (need120_ok f sp h)) (fn := Tryd.f120) (c := (bodyOf Tryd.f120)) (by kernel_rfl) (by kernel_rfl) tree120 run120 (fun _ h => Tr.gives_val h))
noncomputable def tree121 (x : DO) : Tr Bool :=
  .ite ((ieq x.1 2) == true) (
 .need (pre67 x) <|
 .ret (fn67 x)) (
 .ret false)
noncomputable def fn121 (x : DO) : Bool := (tree121 x).val
def pre121 (x : DO) : Prop := (tree121 x).ok
noncomputable def spec121 : Spec := { dom := (.st1 CO), cod := .bool, n := 1, pre := pre121, f := fn121 }
noncomputable def need121 : FuncId → Option Spec
  | 67 => some spec67
  | _ => none
theorem need121_ok : ∀ f sp, need121 f = some sp → SpecOk env0 f sp := by
  intro f sp h
  unfold need121 at h
  split at h
  · cases h; exact ok67
  · cases h
section
variable (W : Cfg) (Q : Bool → Prop) (x : DO)
theorem run121 : run (env need121 (fun _ _ => none)) (fun _ _ _ => none) (finS spec121 Q) W 100000 (startFr 121 Tryd.f121 (bodyOf Tryd.f121) (argsOf (.st1 CO) x)) [] [] = (tree121 x).wp Q := by kernel_rfl
end
theorem ok121 : SpecOk env0 121 spec121 := SpecOk.env rfl (fun _ _ h => h) (spec_of_tree (E := (env need121 (fun _ _ => none))) (sp := spec121) (valid _ _) (fun f sp h => SpecOk.env rfl (fun _ _ h => h) (need121_ok f sp h)) (fn := Tryd.f121) (c := (bodyOf Tryd.f121)) (by kernel_rfl) (by kernel_rfl) tree121 run121 (fun _ h => Tr.gives_val h))
noncomputable def tree21 (x : Int) : Tr DO :=
  .ret (3, (0, ((-1), ((-1), (0, (0, (false, x)))))))
noncomputable def fn21 (x : Int) : DO := (tree21 x).val
def pre21 (x : Int) : Prop := (tree21 x).ok
noncomputable def spec21 : Spec := { dom := (.st1 (.int .i64)), cod := CO, n := 1, pre := pre21, f := fn21 }
noncomputable def need21 : FuncId → Option Spec
  | _ => none
theorem need21_ok : ∀ f sp, need21 f = some sp → SpecOk env0 f sp := by
  intro f sp h
  unfold need21 at h
  split at h
  · cases h
section
variable (W : Cfg) (Q : DO → Prop) (x : Int)
theorem run21 : run (env need21 (fun _ _ => none)) (fun _ _ _ => none) (finS spec21 Q) W 100000 (startFr 21 Tryd.f21 (bodyOf Tryd.f21) (argsOf (.st1 (.int .i64)) x)) [] [] = (tree21 x).wp Q := by kernel_rfl
end
theorem ok21 : SpecOk env0 21 spec21 := SpecOk.env rfl (fun _ _ h => h) (spec_of_tree (E := (env need21 (fun _ _ => none))) (sp := spec21) (valid _ _) (fun f sp h => SpecOk.env rfl (fun _ _ h => h) (need21_ok f sp h)) (fn := Tryd.f21) (c := (bodyOf Tryd.f21)) (by kernel_rfl) (by kernel_rfl) tree21 run21 (fun _ h => Tr.gives_val h))
noncomputable def tree165 (x : DO) : Tr Bool :=
  .ite ((ieq x.1 3) == true) (
 let y0 := x.2.2.2.2.2.2.2
 .need (pre21 y0) <|
 .ret (eqD CO x (fn21 y0))) (
 .ret false)
noncomputable def fn165 (x : DO) : Bool := (tree165 x).val
def pre165 (x : DO) : Prop := (tree165 x).ok
noncomputable def spec165 : Spec := { dom := (.st1 CO), cod := .bool, n := 1, pre := pre165, f := fn165 }
noncomputable def need165 : FuncId → Option Spec
  | 21 => some spec21
  | _ => none
theorem need165_ok : ∀ f sp, need165 f = some sp → SpecOk env0 f sp := by
  intro f sp h
  unfold need165 at h
  split at h
  · cases h; exact ok21
  · cases h
section
variable (W : Cfg) (Q : Bool → Prop) (x : DO)
theorem run165 : run (env need165 (fun _ _ => none)) (fun _ _ _ => none) (finS spec165 Q) W 100000 (startFr 165 Tryd.f165 (bodyOf Tryd.f165) (argsOf (.st1 CO) x)) [] [] = (tree165 x).wp Q := by kernel_rfl
end
theorem ok165 : SpecOk env0 165 spec165 := SpecOk.env rfl (fun _ _ h => h) (spec_of_tree (E := (env need165 (fun _ _ => none))) (sp := spec165) (valid _ _) (fun f sp h => SpecOk.env rfl (fun _ _ h => h) (need165_ok f sp h)) (fn := Tryd.f165) (c := (bodyOf Tryd.f165)) (by kernel_rfl) (by kernel_rfl) tree165 run165 (fun _ h => Tr.gives_val h))
noncomputable def tree122 (x : DO) : Tr Bool :=
  .need (pre165 x) <|
  .ite ((fn165 x) == true) (
 let y0 := x.2.2.2.2.2.2.2
 .ret (ieq (iconv .i64 (iconv .i8 y0)) y0)) (
 .ret false)
noncomputable def fn122 (x : DO) : Bool := (tree122 x).val
def pre122 (x : DO) : Prop := (tree122 x).ok
noncomputable def spec122 : Spec := { dom := (.st1 CO), cod := .bool, n := 1, pre := pre122, f := fn122 }
noncomputable def need122 : FuncId → Option Spec
  | 165 => some spec165
  | _ => none
theorem need122_ok : ∀ f sp, need122 f = some sp → SpecOk env0 f sp := by
  intro f sp h
  unfold need122 at h
  split at h
  · cases h; exact ok165
  · cases h
section
variable (W : Cfg) (Q : Bool → Prop) (x : DO)
theorem run122 : run (env need122 (fun _ _ => none)) (fun _ _ _ => none) (finS spec122 Q) W 100000 (startFr 122 Tryd.f122 (bodyOf Tryd.f122) (argsOf (.st1 CO) x)) [] [] = (tree122 x).wp Q := by kernel_rfl
end
theorem ok122 : SpecOk env0 122 spec122 := SpecOk.env rfl (fun _ _ h => h) (spec_of_tree (E := (env need122 (fun _ _ => none))) (sp := spec122) (valid _ _) (fun f sp h => SpecOk.env rfl (fun _ _ h => h) (need122_ok f sp h)) (fn := Tryd.f122) (c := (bodyOf Tryd.f122)) (by kernel_rfl) (by kernel_rfl) tree122 run122 (fun _ h => Tr.gives_val h))
noncomputable def tree123 (x : DO) : Tr Bool :=
  .need (pre165 x) <|
  .ite ((fn165 x) == true) (
 let y0 := x.2.2.2.2.2.2.2
 .ret (ieq (iconv .i64 (iconv .i32 y0)) y0)) (
 .ret false)
noncomputable def fn123 (x : DO) : Bool := (tree123 x).val
def pre123 (x : DO) : Prop := (tree123 x).ok
noncomputable def spec123 : Spec := { dom := (.st1 CO), cod := .bool, n := 1, pre := pre123, f := fn123 }
noncomputable def need123 : FuncId → Option Spec
  | 165 => some spec165
  | _ => none
theorem need123_ok : ∀ f sp, need123 f = some sp → SpecOk env0 f sp := by
  intro f sp h
  unfold need123 at h
  split at h
  · cases h; exact ok165
  · cases h
section
variable (W : Cfg) (Q : Bool → Prop) (x : DO)
theorem run123 : run (env need123 (fun _ _ => none)) (fun _ _ _ => none) (finS spec123 Q) W 100000 (startFr 123 Tryd.f123 (bodyOf Tryd.f123) (argsOf (.st1 CO) x)) [] [] = (tree123 x).wp Q := by kernel_rfl
end
theorem ok123 : SpecOk env0 123 spec123 := SpecOk.env rfl (fun _ _ h => h) (spec_of_tree (E := (env need123 (fun _ _ => none))) (sp := spec123) (valid _ _) (fun f sp h => SpecOk.env rfl (fun _ _ h => h) (need123_ok f sp h)) (fn := Tryd.f123) (c := (bodyOf Tryd.f123)) (by kernel_rfl) (by kernel_rfl) tree123 run123 (fun _ h => Tr.gives_val h))
noncomputable def tree23 (x : Int) : Tr DO :=
  .ret (1, ((iadd .i64 (iand .i64 x 15) 16), ((-1), ((-1), (0, (0, (false, 0)))))))
noncomputable def fn23 (x : Int) : DO := (tree23 x).val
def pre23 (x : Int) : Prop := (tree23 x).ok
noncomputable def spec23 : Spec := { dom := (.st1 (.int .i64)), cod := CO, n := 1, pre := pre23, f := fn23 }
noncomputable def need23 : FuncId → Option Spec
  | _ => none
theorem need23_ok : ∀ f sp, need23 f = some sp → SpecOk env0 f sp := by
  intro f sp h
  unfold need23 at h
  split at h
  · cases h
section
variable (W : Cfg) (Q : DO → Prop) (x : Int)
theorem run23 : run (env need23 (fun _ _ => none)) (fun _ _ _ => none) (finS spec23 Q) W 100000 (startFr 23 Tryd.f23 (bodyOf Tryd.f23) (argsOf (.st1 (.int .i64)) x)) [] [] = (tree23 x).wp Q := by kernel_rfl
end
theorem ok23 : SpecOk env0 23 spec23 := SpecOk.env rfl (fun _ _ h => h) (spec_of_tree (E := (env need23 (fun _ _ => none))) (sp := spec23) (valid _ _) (fun f sp h => SpecOk.env rfl (fun _ _ h => h) (need23_ok f sp h)) (fn := Tryd.f23) (c := (bodyOf Tryd.f23)) (by kernel_rfl) (by kernel_rfl) tree23 run23 (fun _ h => Tr.gives_val h))
noncomputable def tree126 (x : DO) : Tr Bool :=
  .ite ((ieq x.1 1) == true) (
 let y0 := x.2.1
 .ite ((ieq (iandn .i64 y0 15) 16) == true) (
 .need (pre23 y0) <|
 .ret (eqD CO x (fn23 y0))) (
 .ret false)) (
 .ret false)
noncomputable def fn126 (x : DO) : Bool := (tree126 x).val
def pre126 (x : DO) : Prop := (tree126 x).ok
noncomputable def spec126 : Spec := { dom := (.st1 CO), cod := .bool, n := 1, pre := pre126, f := fn126 }
noncomputable def need126 : FuncId → Option Spec
  | 23 => some spec23
  | _ => none
theorem need126_ok : ∀ f sp, need126 f = some sp → SpecOk env0 f sp := by
  intro f sp h
  unfold need126 at h
  split at h
  · cases h; exact ok23
  · cases h
section
variable (W : Cfg) (Q : Bool → Prop) (x : DO)
theorem run126 : run (env need126 (fun _ _ => none)) (fun _ _ _ => none) (finS spec126 Q) W 100000 (startFr 126 Tryd.f126 (bodyOf Tryd.f126) (argsOf (.st1 CO) x)) [] [] = (tree126 x).wp Q := by kernel_rfl
end
theorem ok126 : SpecOk env0 126 spec126 := SpecOk.env rfl (fun _ _ h => h) (spec_of_tree (E := (env need126 (fun _ _ => none))) (sp := spec126) (valid _ _) (fun f sp h => SpecOk.env rfl (fun _ _ h => h) (need126_ok f sp h)) (fn := Tryd.f126) (c := (bodyOf Tryd.f126)) (by kernel_rfl) (by kernel_rfl) tree126 run126 (fun _ h => Tr.gives_val h))
noncomputable def tree127 (x : DO) : Tr Bool :=
  .need (pre126 x) <|
  .ite ((fn126 x) == false) (
 .need (pre121 x) <|
 .ret (fn121 x)) (
 .ret true)
noncomputable def fn127 (x : DO) : Bool := (tree127 x).val
def pre127 (x : DO) : Prop := (tree127 x).ok
noncomputable def spec127 : Spec := { dom := (.st1 CO), cod := .bool, n := 1, pre := pre127, f := fn127 }
noncomputable def need127 : FuncId → Option Spec
  | 121 => some spec121
  | 126 => some spec126
  | _ => none
theorem need127_ok : ∀ f sp, need127 f = some sp → SpecOk env0 f sp := by
  intro f sp h
  unfold need127 at h
  split at h
  · cases h; exact ok121
  · cases h; exact ok126
  · cases h
section
variable (W : Cfg) (Q : Bool → Prop) (x : DO)
theorem run127 : run (env need127 (fun _ _ => none)) (fun _ _ _ => none) (finS spec127 Q) W 100000 (startFr 127 Tryd.f127 (bodyOf Tryd.f127) (argsOf (.st1 CO) x)) [] [] = (tree127 x).wp Q := by kernel_rfl
end
theorem ok127 : SpecOk env0 127 spec127 := SpecOk.env rfl (fun _ _ h => h) (spec_of_tree (E := (env need127 (fun _ _ => none))) (sp := spec127) (valid _ _) (fun f sp h => SpecOk.env rfl (fun _ _ h => h) (need127_ok f sp h)) (fn := Tryd.f127) (c := (bodyOf Tryd.f127)) (by kernel_rfl) (by kernel_rfl) tree127 run127 (fun _ h => Tr.gives_val h))
noncomputable def tree129 (x : DO) : Tr Bool :=
  .need (pre165 x) <|
  .ite ((fn165 x) == true) (
 let y0 := x.2.2.2.2.2.2.2
 .ret (ieq (iconv .i64 (iconv .u8 y0)) y0)) (
 .ret false)
noncomputable def fn129 (x : DO) : Bool := (tree129 x).val
def pre129 (x : DO) : Prop := (tree129 x).ok
noncomputable def spec129 : Spec := { dom := (.st1 CO), cod := .bool, n := 1, pre := pre129, f := fn129 }
noncomputable def need129 : FuncId → Option Spec
  | 165 => some spec165
  | _ => none
theorem need129_ok : ∀ f sp, need129 f = some sp → SpecOk env0 f sp := by
  intro f sp h
  unfold need129 at h
  split at h
  · cases h; exact ok165
  · cases h
section
variable (W : Cfg) (Q : Bool → Prop) (x : DO)
theorem run129 : run (env need129 (fun _ _ => none)) (fun _ _ _ => none) (finS spec129 Q) W 100000 (startFr 129 Tryd.f129 (bodyOf Tryd.f129) (argsOf (.st1 CO) x)) [] [] = (tree129 x).wp Q := by kernel_rfl
end
theorem ok129 : SpecOk env0 129 spec129 := SpecOk.env rfl (fun _ _ h => h) (spec_of_tree (E := (env need129 (fun _ _ => none))) (sp := spec129) (valid _ _) (fun f sp h => SpecOk.env rfl (fun _ _ h => h) (need129_ok f sp h)) (fn := Tryd.f129) (c := (bodyOf Tryd.f129)) (by kernel_rfl) (by kernel_rfl) tree129 run129 (fun _ h => Tr.gives_val h))
noncomputable def tree130 (x : DO) : Tr Bool :=
  .need (pre60 1) <|
  .ret (eqD CO x (fn60 1))
noncomputable def fn130 (x : DO) : Bool := (tree130 x).val
def pre130 (x : DO) : Prop := (tree130 x).ok
noncomputable def spec130 : Spec := { dom := (.st1 CO), cod := .bool, n := 1, pre := pre130, f := fn130 }
noncomputable def need130 : FuncId → Option Spec
  | 60 => some spec60
  | _ => none
theorem need130_ok : ∀ f sp, need130 f = some sp → SpecOk env0 f sp := by
  intro f sp h
  unfold need130 at h
  split at h
  · cases h; exact ok60
  · cases h
section
variable (W : Cfg) (Q : Bool → Prop) (x : DO)
theorem run130 : run (env need130 (fun _ _ => none)) (fun _ _ _ => none) (finS spec130 Q) W 100000 (startFr 130 Tryd.f130 (bodyOf Tryd.f130) (argsOf (.st1 CO) x)) [] [] = (tree130 x).wp Q := by kernel_rfl
end
theorem ok130 : SpecOk env0 130 spec130 := SpecOk.env rfl (fun _ _ h => h) (spec_of_tree (E := (env need130 (fun _ _ => none))) (sp := spec130) (valid _ _) (fun f sp h => SpecOk.env rfl (fun _ _ h => h) (need130_ok f sp h)) (fn := Tryd.f130) (c := (bodyOf Tryd.f130)) (by kernel_rfl) (by kernel_rfl) tree130 run130 (fun _ h => Tr.gives_val h))
noncomputable def tree144 (x : DO) : Tr Bool :=
  .ret (eqD CO x (0, (0, (0, (0, (0, (0, (false, 0))))))))
noncomputable def fn144 (x : DO) : Bool := (tree144 x).val
def pre144 (x : DO) : Prop := (tree144 x).ok
noncomputable def spec144 : Spec := { dom := (.st1 CO), cod := .bool, n := 1, pre := pre144, f := fn144 }
noncomputable def need144 : FuncId → Option Spec
  | _ => none
theorem need144_ok : ∀ f sp, need144 f = some sp → SpecOk env0 f sp := by
  intro f sp h
  unfold need144 at h
  split at h
  · cases h
section
variable (W : Cfg) (Q : Bool → Prop) (x : DO)
theorem run144 : run (env need144 (fun _ _ => none)) (fun _ _ _ => none) (finS spec144 Q) W 100000 (startFr 144 Tryd.f144 (bodyOf Tryd.f144) (argsOf (.st1 CO) x)) [] [] = (tree144 x).wp Q := by kernel_rfl
end
theorem ok144 : SpecOk env0 144 spec144 := SpecOk.env rfl (fun _ _ h => h) (spec_of_tree (E := (env need144 (fun _ _ => none))) (sp := spec144) (valid _ _) (fun f sp h => SpecOk.env rfl (fun _ _ h => h) (need144_ok f sp h)) (fn := Tryd.f144) (c := (bodyOf Tryd.f144)) (by kernel_rfl) (by kernel_rfl) tree144 run144 (fun _ h => Tr.gives_val h))
inductive J154 where
 | h0 (v2 : Int) (v3 : Int)
noncomputable def tree154 (x : ((List Int) × Int)) : Tr (J154 ⊕ Int) :=
  .ret (.inl (.h0 (x.1.length : Int) 0))
noncomputable def step154 (x : ((List Int) × Int)) : J154 → Tr (J154 ⊕ Int)
 | .h0 v2 v3 =>
 .ite (ilt v3 v2) (
 .need ((0 : Int) ≤ v3) <|
 .need (v3 < (x.1.length : Int)) <|
 .ite (ieq x.2 (rdc (.int .i64) x.1 (v3).toNat)) (
 .ret (.inr v3)) (
 .ret (.inl (.h0 v2 (iadd .i64 v3 1))))) (
 .ret (.inr (-1)))
noncomputable def head154 (x : ((List Int) × Int)) : J154 → Head
 | .h0 v2 v3 =>
 { fr := { id := 154, kind := .top, T := [(.fsl (.int .i64) x.1), (.int .i64 x.2)] ++ List.replicate 5 .any ++ [(.int .i64 v2), (.int .i64 v3)] ++ List.replicate 10 .any, items := [.lp (subc [1, 0, 1, 0, 0] (bodyOf Tryd.f154)), .blk 0, .code (subc [1, 1] (bodyOf Tryd.f154))], D := [], base := 0 },
   stk := [],
   H := [] }
noncomputable def stop154 : FuncId → Nat → Nat → Option Cut
  | 154, 0, 0 => some { tmps := [0, 1, 7, 8], loops := [], dead := [], stk := [] }
  | _, _, _ => none
noncomputable def fn154 (x : ((List Int) × Int)) : Int := endVal (TC.dflt (.int .i64)) (step154 x) (tree154 x)
def pre154 (x : ((List Int) × Int)) : Prop := ∃ r, Ends (step154 x) r (tree154 x)
noncomputable def spec154 : Spec := { dom := (.st (.slice (.int .i64)) (.st1 (.int .i64))), cod := (.int .i64), n := 1, pre := pre154, f := fn154 }
noncomputable def need154 : FuncId → Option Spec
  | _ => none
theorem need154_ok : ∀ f sp, need154 f = some sp → SpecOk env0 f sp := by
  intro f sp h
  unfold need154 at h
  split at h
  · cases h
section
variable (W : Cfg) (Q : Int → Prop) (x : ((List Int) × Int))
theorem run154 : run (env need154 (fun _ _ => none)) stop154 (finS spec154 Q) W 100000 (startFr 154 Tryd.f154 (bodyOf Tryd.f154) (argsOf (.st (.slice (.int .i64)) (.st1 (.int .i64))) x)) [] [] = (tree154 x).wp (kont W Q (head154 x)) := by kernel_rfl
theorem run154h0 (v2 v3 : Int) : run (env need154 (fun _ _ => none)) stop154 (finS spec154 Q) W 100000 (head154 x (.h0 v2 v3)).fr.enter (head154 x (.h0 v2 v3)).stk (head154 x (.h0 v2 v3)).H = (step154 x (.h0 v2 v3)).wp (kont W Q (head154 x)) := by kernel_rfl
end
theorem runs154 (W : Cfg) (Q : Int → Prop) (x : ((List Int) × Int)) : ∀ j : J154, run (env need154 (fun _ _ => none)) stop154 (finS spec154 Q) W 100000 (head154 x j).fr.enter (head154 x j).stk (head154 x j).H = (step154 x j).wp (kont W Q (head154 x))
 | .h0 v2 v3 => run154h0 W Q x v2 v3
theorem ok154 : SpecOk env0 154 spec154 := SpecOk.env rfl (fun _ _ h => h) (spec_of_trees (E := (env need154 (fun _ _ => none))) (sp := spec154) (valid _ _) (fun f sp h => SpecOk.env rfl (fun _ _ h => h) (need154_ok f sp h)) (fn := Tryd.f154) (c := (bodyOf Tryd.f154)) (by kernel_rfl) (by kernel_rfl) tree154 step154 head154 run154 runs154 (fun _ h => endVal_ends h))
noncomputable def tree99 (x : ((List Int) × Int)) : Tr Bool :=
  .need (pre154 x) <|
  .ret (ile 0 (fn154 x))
noncomputable def fn99 (x : ((List Int) × Int)) : Bool := (tree99 x).val
def pre99 (x : ((List Int) × Int)) : Prop := (tree99 x).ok
noncomputable def spec99 : Spec := { dom := (.st (.slice (.int .i64)) (.st1 (.int .i64))), cod := .bool, n := 1, pre := pre99, f := fn99 }
noncomputable def need99 : FuncId → Option Spec
  | 154 => some spec154
  | _ => none
theorem need99_ok : ∀ f sp, need99 f = some sp → SpecOk env0 f sp := by
  intro f sp h
  unfold need99 at h
  split at h
  · cases h; exact ok154
  · cases h
section
variable (W : Cfg) (Q : Bool → Prop) (x : ((List Int) × Int))
theorem run99 : run (env need99 (fun _ _ => none)) (fun _ _ _ => none) (finS spec99 Q) W 100000 (startFr 99 Tryd.f99 (bodyOf Tryd.f99) (argsOf (.st (.slice (.int .i64)) (.st1 (.int .i64))) x)) [] [] = (tree99 x).wp Q := by kernel_rfl
end
theorem ok99 : SpecOk env0 99 spec99 := SpecOk.env rfl (fun _ _ h => h) (spec_of_tree (E := (env need99 (fun _ _ => none))) (sp := spec99) (valid _ _) (fun f sp h => SpecOk.env rfl (fun _ _ h => h) (need99_ok f sp h)) (fn := Tryd.f99) (c := (bodyOf Tryd.f99)) (by kernel_rfl) (by kernel_rfl) tree99 run99 (fun _ h => Tr.gives_val h))
end Go.Eng.RE
end
section
/- Functions of this program, written out. -/
namespace Go.Eng.RE
open Go.Proofs Go.Eng
inductive J36 where
 | h0
 | h1 (v43 : (List Int)) (v59 : Int) (v65 : Int) (v68 : (List Int)) (v69 : (List Int)) (v70 : (List Int)) (v71 : (List Int))
 | h2 (v43 : (List Int)) (v62 : (List Int)) (v63 : (List Int)) (v64 : (List Int)) (v86 : (List Int)) (v105 : (List Int)) (v106 : (List Int)) (v107 : (List Int)) (v108 : (List Int)) (v115 : (List Int))
 | h3 (v43 : (List Int)) (v50 : (List Int))
 | h4 (v43 : (List Int)) (v56 : (List Int)) (v57 : (List Int))
 | h5 (v43 : (List Int)) (v47 : Int) (v50 : (List Int))
 | h6 (v43 : (List Int)) (v47 : Int) (v53 : Int) (v56 : (List Int)) (v57 : (List Int))
 | h7 (v43 : (List Int)) (v50 : (List Int))
 | h8 (v43 : (List Int)) (v50 : (List Int))
 | h9 (v43 : (List Int)) (v56 : (List Int)) (v57 : (List Int))
 | h10 (v43 : (List Int)) (v50 : (List Int))
 | h11 (v43 : (List Int)) (v49 : Int) (v50 : (List Int))
 | h12 (v43 : (List Int)) (v50 : (List Int))
 | h13 (v43 : (List Int)) (v56 : (List Int)) (v57 : (List Int))
 | h14 (v43 : (List Int)) (v50 : (List Int))
 | h15 (v43 : (List Int)) (v50 : (List Int))
 | h16 (v43 : (List Int)) (v50 : (List Int))
 | h17
 | h18 (v43 : (List Int)) (v59 : Int) (v65 : Int) (v68 : (List Int)) (v69 : (List Int)) (v70 : (List Int)) (v71 : (List Int))
 | h19 (v43 : (List Int)) (v62 : (List Int)) (v63 : (List Int)) (v64 : (List Int)) (v86 : (List Int)) (v105 : (List Int)) (v106 : (List Int)) (v107 : (List Int)) (v108 : (List Int)) (v115 : (List Int))
 | h20 (v43 : (List Int)) (v56 : (List Int)) (v57 : (List Int))
 | h21 (v43 : (List Int)) (v47 : Int) (v53 : Int) (v56 : (List Int)) (v57 : (List Int))
 | h22 (v43 : (List Int)) (v56 : (List Int)) (v57 : (List Int))
 | h23 (v43 : (List Int)) (v56 : (List Int)) (v57 : (List Int))
 | h24 (v43 : (List Int)) (v59 : Int) (v65 : Int) (v68 : (List Int)) (v69 : (List Int)) (v70 : (List Int)) (v71 : (List Int))
 | h25 (v43 : (List Int)) (v62 : (List Int)) (v63 : (List Int)) (v64 : (List Int)) (v86 : (List Int)) (v105 : (List Int)) (v106 : (List Int)) (v107 : (List Int)) (v108 : (List Int)) (v115 : (List Int))
 | h26 (v43 : (List Int)) (v59 : Int) (v65 : Int) (v68 : (List Int)) (v69 : (List Int)) (v70 : (List Int)) (v71 : (List Int))
 | h27 (v43 : (List Int)) (v62 : (List Int)) (v63 : (List Int)) (v64 : (List Int)) (v86 : (List Int)) (v105 : (List Int)) (v106 : (List Int)) (v107 : (List Int)) (v108 : (List Int)) (v115 : (List Int))
 | h28 (v43 : (List Int)) (v62 : (List Int)) (v63 : (List Int)) (v64 : (List Int)) (v86 : (List Int)) (v105 : (List Int)) (v106 : (List Int)) (v107 : (List Int)) (v108 : (List Int)) (v115 : (List Int))
 | h29 (v43 : (List Int)) (v62 : (List Int)) (v63 : (List Int)) (v64 : (List Int)) (v86 : (List Int)) (v105 : (List Int)) (v106 : (List Int)) (v107 : (List Int)) (v108 : (List Int)) (v115 : (List Int))
 | h30 (v43 : (List Int)) (v50 : (List Int)) (v72 : (List Int)) (v91 : (List Int)) (v92 : (List Int)) (v93 : (List Int)) (v94 : (List Int)) (v113 : (List Int)) (v114 : (List Int)) (v115 : (List Int))
noncomputable def tree36 (x : DI) : Tr (J36 ⊕ (((List Int) × (Int × Unit)) × ((Unit × (Unit × ((List Int) × (Int × (Int × Int))))) × Bool))) :=
  .ite ((ieq x.1 29) == false) (
 .ite ((ieq x.1 30) == false) (
 let y0 := x.2.1
 let y1 := ((ilt 15 y0) == false)
 .ite y1 (
 .ite ((!(ieq x.1 31)) == true) (
 .ite ((ine y0 0) == false) (
 let y2 := ((ine x.1 39) == true)
 .ite y2 (
 let y3 := (ine x.2.2.2.2.2.1 0)
 .ite y3 (
 let y4 : (((List Int) × (Int × Unit)) × ((Unit × (Unit × ((List Int) × (Int × (Int × Int))))) × Bool)) := ((([] : List Int), (0, ())), (((), ((), (([] : List Int), (0, (0, 0))))), false))
 .ret (.inr y4)) (
 .ret (.inl (.h0)))) (
 .ret (.inl (.h0)))) (
 let y5 : (((List Int) × (Int × Unit)) × ((Unit × (Unit × ((List Int) × (Int × (Int × Int))))) × Bool)) := ((([] : List Int), (0, ())), (((), ((), (([] : List Int), (0, (0, 0))))), false))
 .ret (.inr y5))) (
 let y6 := ((ine x.1 39) == true)
 .ite y6 (
 let y7 := (ine x.2.2.2.2.2.1 0)
 .ite y7 (
 let y8 : (((List Int) × (Int × Unit)) × ((Unit × (Unit × ((List Int) × (Int × (Int × Int))))) × Bool)) := ((([] : List Int), (0, ())), (((), ((), (([] : List Int), (0, (0, 0))))), false))
 .ret (.inr y8)) (
 .ret (.inl (.h0)))) (
 .ret (.inl (.h0))))) (
 let y9 : (((List Int) × (Int × Unit)) × ((Unit × (Unit × ((List Int) × (Int × (Int × Int))))) × Bool)) := ((([] : List Int), (0, ())), (((), ((), (([] : List Int), (0, (0, 0))))), false))
 .ret (.inr y9))) (
 let y10 := x.2.1
 let y11 := ((ilt 15 y10) == false)
 .ite y11 (
 let y12 := ((ine x.1 39) == true)
 .ite y12 (
 let y13 := (ine x.2.2.2.2.2.1 0)
 .ite y13 (
 let y14 : (((List Int) × (Int × Unit)) × ((Unit × (Unit × ((List Int) × (Int × (Int × Int))))) × Bool)) := ((([] : List Int), (0, ())), (((), ((), (([] : List Int), (0, (0, 0))))), false))
 .ret (.inr y14)) (
 .ret (.inl (.h0)))) (
 .ret (.inl (.h0)))) (
 let y15 : (((List Int) × (Int × Unit)) × ((Unit × (Unit × ((List Int) × (Int × (Int × Int))))) × Bool)) := ((([] : List Int), (0, ())), (((), ((), (([] : List Int), (0, (0, 0))))), false))
 .ret (.inr y15)))) (
 let y16 := x.2.1
 let y17 := ((ilt 15 y16) == false)
 .ite y17 (
 let y18 := ((ine x.1 39) == true)
 .ite y18 (
 let y19 := (ine x.2.2.2.2.2.1 0)
 .ite y19 (
 let y20 : (((List Int) × (Int × Unit)) × ((Unit × (Unit × ((List Int) × (Int × (Int × Int))))) × Bool)) := ((([] : List Int), (0, ())), (((), ((), (([] : List Int), (0, (0, 0))))), false))
 .ret (.inr y20)) (
 .ret (.inl (.h0)))) (
 .ret (.inl (.h0)))) (
 let y21 : (((List Int) × (Int × Unit)) × ((Unit × (Unit × ((List Int) × (Int × (Int × Int))))) × Bool)) := ((([] : List Int), (0, ())), (((), ((), (([] : List Int), (0, (0, 0))))), false))
 .ret (.inr y21)))
noncomputable def step36 (x : DI) : J36 → Tr (J36 ⊕ (((List Int) × (Int × Unit)) × ((Unit × (Unit × ((List Int) × (Int × (Int × Int))))) × Bool)))
 | .h0 =>
 .need ((0 : Nat) < 8) <|
 .need ((1 : Nat) < 8) <|
 .need ((2 : Nat) < 8) <|
 .need ((3 : Nat) < 8) <|
 .need ((4 : Nat) < 8) <|
 .need ((5 : Nat) < 8) <|
 .need ((6 : Nat) < 8) <|
 .need ((7 : Nat) < 8) <|
 .need (((0 : Nat) + 8 : Nat) ≤ 8) <|
 let y0 : ((List Int) × Int) := ([3, 4, 5, 6, 7, 8, 9, 10], x.1)
 .need (pre117 y0) <|
 let y1 := (fn117 y0)
 .ite (ile 0 y1) (
 .need ((0 : Nat) < 1) <|
 .need ((0 : Nat) < 1) <|
 .need ((0 : Nat) < 1) <|
 .need ((0 : Nat) < 1) <|
 .need ((0 : Nat) < 2) <|
 .need ((1 : Nat) < 2) <|
 .need ((0 : Int) ≤ 0) <|
 .need (0 < (1 : Int)) <|
 .need ((0 : Int) ≤ 0) <|
 .need (0 < (4 : Int)) <|
 .need (((0 : Nat) + 2 : Nat) ≤ 2) <|
 let y2 : (List Int) := [4, 8]
 let y3 := x.2.2
 let y4 := y3.1
 let y5 : ((List Int) × Int) := (y2, y4)
 .need (pre99 y5) <|
 let y6 := ((fn99 y5) == true)
 .ite y6 (
 let y7 := y3.2
 let y8 := y7.1
 .need (pre119 y8) <|
 let y9 := ((fn119 y8) == true)
 .ite y9 (
 let y10 := y7.2.1
 .need (pre120 y10) <|
 let y11 := ((fn120 y10) == true)
 .ite y11 (
 .need (((0 : Nat) + 2 : Nat) ≤ 2) <|
 .need (((0 : Nat) + 1 : Nat) ≤ 1) <|
 let y12 : (Int × Unit) := (0, ())
 let y13 : ((List Int) × (Int × Unit)) := (y2, y12)
 let y14 : Int := (imul .i64 8 y1)
 let y15 : (List Int) := [(iconv .u8 (iadd .i64 y14 1))]
 let y16 : (Int × Int) := (1, 0)
 let y17 : (Int × (Int × Int)) := ((-1), y16)
 .ret (.inr (y13, (((), ((), (y15, y17))), true)))) (
 let y18 : Int := (imul .i64 8 y1)
 let y19 : (List Int) := [(iconv .u8 (iadd .i64 y18 1))]
 let y20 : (List Int) := [(iconv .u8 (iadd .i64 y18 3))]
 .ret (.inl (.h1 y2 y1 y1 y19 y20 [131] [129])))) (
 let y21 : Int := (imul .i64 8 y1)
 let y22 : (List Int) := [(iconv .u8 (iadd .i64 y21 1))]
 let y23 : (List Int) := [(iconv .u8 (iadd .i64 y21 3))]
 .ret (.inl (.h1 y2 y1 y1 y22 y23 [131] [129])))) (
 let y24 : Int := (imul .i64 8 y1)
 let y25 : (List Int) := [(iconv .u8 (iadd .i64 y24 1))]
 let y26 : (List Int) := [(iconv .u8 (iadd .i64 y24 3))]
 .ret (.inl (.h1 y2 y1 y1 y25 y26 [131] [129])))) (
 .ite (ieq x.1 1) (
 .need ((0 : Nat) < 1) <|
 .need ((0 : Nat) < 1) <|
 .need ((0 : Nat) < 1) <|
 .need ((0 : Nat) < 1) <|
 .need ((0 : Nat) < 2) <|
 .need ((1 : Nat) < 2) <|
 .need ((0 : Nat) < 1) <|
 .need ((0 : Nat) < 1) <|
 .need ((0 : Nat) < 1) <|
 .need ((0 : Nat) < 1) <|
 .need ((0 : Nat) < 1) <|
 .need ((0 : Int) ≤ 0) <|
 .need (0 < (3 : Int)) <|
 .need ((0 : Int) ≤ 0) <|
 .need (0 < (3 : Int)) <|
 .need (((0 : Nat) + 1 : Nat) ≤ 1) <|
 let y27 := x.2.2
 let y28 := y27.1
 let y29 : ((List Int) × Int) := ([1], y28)
 .need (pre99 y29) <|
 let y30 := ((fn99 y29) == true)
 .ite y30 (
 let y31 := y27.2
 let y32 := y31.1
 .need (pre119 y32) <|
 let y33 := ((fn119 y32) == true)
 .ite y33 (
 let y34 := y31.2.1
 .need (pre120 y34) <|
 let y35 := ((fn120 y34) == true)
 .ite y35 (
 .need (((0 : Nat) + 1 : Nat) ≤ 1) <|
 .need (((0 : Nat) + 1 : Nat) ≤ 1) <|
 let y36 : (Int × Unit) := (0, ())
 let y37 : ((List Int) × (Int × Unit)) := ([1], y36)
 let y38 : (Int × Int) := (1, 0)
 let y39 : (Int × (Int × Int)) := ((-1), y38)
 .ret (.inr (y37, (((), ((), ([136], y39))), true)))) (
 let y40 : (List Int) := [4, 8]
 .ret (.inl (.h2 [1] [136] [138] [198] y40 [137] [139] [199] [8] [184])))) (
 let y41 : (List Int) := [4, 8]
 .ret (.inl (.h2 [1] [136] [138] [198] y41 [137] [139] [199] [8] [184])))) (
 let y42 : (List Int) := [4, 8]
 .ret (.inl (.h2 [1] [136] [138] [198] y42 [137] [139] [199] [8] [184])))) (
 .ite (ieq x.1 2) (
 .need ((0 : Nat) < 1) <|
 .need ((0 : Nat) < 2) <|
 .need ((1 : Nat) < 2) <|
 .need ((0 : Int) ≤ 0) <|
 .need (0 < (1 : Int)) <|
 .need ((0 : Int) ≤ 0) <|
 .need (0 < (1 : Int)) <|
 .need (((0 : Nat) + 2 : Nat) ≤ 2) <|
 let y43 : (List Int) := [4, 8]
 let y44 := x.2.2
 let y45 := y44.1
 let y46 : ((List Int) × Int) := (y43, y45)
 .need (pre99 y46) <|
 let y47 := ((fn99 y46) == true)
 .ite y47 (
 let y48 := y44.2
 let y49 := y48.1
 .need (pre120 y49) <|
 let y50 := ((fn120 y49) == true)
 .ite y50 (
 let y51 := y48.2.1
 .need (pre121 y51) <|
 .ite ((fn121 y51) == true) (
 .need (((0 : Nat) + 2 : Nat) ≤ 2) <|
 .need (((0 : Nat) + 1 : Nat) ≤ 1) <|
 let y52 : (Int × Unit) := (0, ())
 let y53 : ((List Int) × (Int × Unit)) := (y43, y52)
 let y54 : (Int × (Int × Int)) := ((-1), (2, 0))
 .ret (.inr (y53, (((), ((), ([141], y54))), true)))) (
 .ret (.inl (.h3 y43 [141])))) (
 .ret (.inl (.h3 y43 [141])))) (
 .ret (.inl (.h3 y43 [141])))) (
 .ite (ieq x.1 11) (
 .need ((0 : Nat) < 1) <|
 .need ((0 : Nat) < 1) <|
 .need ((0 : Nat) < 2) <|
 .need ((1 : Nat) < 2) <|
 .need ((0 : Int) ≤ 0) <|
 .need (0 < (1 : Int)) <|
 .need ((0 : Int) ≤ 0) <|
 .need (0 < (2 : Int)) <|
 .need (((0 : Nat) + 2 : Nat) ≤ 2) <|
 let y55 : (List Int) := [4, 8]
 let y56 := x.2.2
 let y57 := y56.1
 let y58 : ((List Int) × Int) := (y55, y57)
 .need (pre99 y58) <|
 let y59 := ((fn99 y58) == true)
 .ite y59 (
 let y60 := y56.2
 let y61 := y60.1
 .need (pre119 y61) <|
 let y62 := ((fn119 y61) == true)
 .ite y62 (
 let y63 := y60.2.1
 .need (pre120 y63) <|
 let y64 := ((fn120 y63) == true)
 .ite y64 (
 .need (((0 : Nat) + 2 : Nat) ≤ 2) <|
 .need (((0 : Nat) + 1 : Nat) ≤ 1) <|
 let y65 : (Int × Unit) := (0, ())
 let y66 : ((List Int) × (Int × Unit)) := (y55, y65)
 let y67 : (Int × Int) := (1, 0)
 let y68 : (Int × (Int × Int)) := ((-1), y67)
 .ret (.inr (y66, (((), ((), ([133], y68))), true)))) (
 .ret (.inl (.h4 y55 [133] [247])))) (
 .ret (.inl (.h4 y55 [133] [247])))) (
 .ret (.inl (.h4 y55 [133] [247])))) (
 let y69 := (ieq x.1 12)
 .ite y69 (
 .need ((0 : Nat) < 1) <|
 .need ((0 : Nat) < 2) <|
 .need ((1 : Nat) < 2) <|
 .need ((0 : Int) ≤ 0) <|
 .need (0 < (1 : Int)) <|
 .need ((0 : Int) ≤ 0) <|
 .need (0 < (1 : Int)) <|
 .need (((0 : Nat) + 2 : Nat) ≤ 2) <|
 let y70 : (List Int) := [4, 8]
 let y71 := x.2.2
 let y72 := y71.1
 let y73 : ((List Int) × Int) := (y70, y72)
 .need (pre99 y73) <|
 let y74 := ((fn99 y73) == true)
 .ite y74 (
 let y75 := y71.2
 let y76 := y75.1
 .need (pre119 y76) <|
 let y77 := ((fn119 y76) == true)
 .ite y77 (
 let y78 := y75.2.1
 .need (pre144 y78) <|
 let y79 := ((fn144 y78) == true)
 .ite y79 (
 .need (((0 : Nat) + 2 : Nat) ≤ 2) <|
 .need (((0 : Nat) + 1 : Nat) ≤ 1) <|
 let y80 : (Int × Unit) := (0, ())
 let y81 : ((List Int) × (Int × Unit)) := (y70, y80)
 let y82 := (ieq x.1 13)
 let y83 := (ieq x.1 15)
 let y84 := (ieq x.1 14)
 let y85 := (ieq x.1 22)
 let y86 := (ieq x.1 23)
 let y87 := (ieq x.1 19)
 let y88 := (ieq x.1 20)
 let y89 := (ieq x.1 16)
 let y90 := (ieq x.1 17)
 let y91 := (ieq x.1 18)
 let y92 : Int := (cond y69 0 (cond y82 1 (cond y83 2 (cond y84 3 (cond y85 4 (cond y86 6 (cond y87 0 (cond y88 1 (cond y89 4 (cond y90 5 (cond y91 7 0)))))))))))
 let y93 : (Int × Int) := (1, 0)
 let y94 : (Int × (Int × Int)) := (y92, y93)
 let y95 : (((List Int) × (Int × Unit)) × ((Unit × (Unit × ((List Int) × (Int × (Int × Int))))) × Bool)) := (y81, (((), ((), ([255], y94))), true))
 .ret (.inr y95)) (
 let y96 := (ieq x.1 13)
 let y97 := (ieq x.1 15)
 let y98 := (ieq x.1 14)
 let y99 := (ieq x.1 22)
 let y100 := (ieq x.1 23)
 let y101 := (ieq x.1 19)
 let y102 := (ieq x.1 20)
 let y103 := (ieq x.1 16)
 let y104 := (ieq x.1 17)
 let y105 := (ieq x.1 18)
 let y106 : Int := (cond y69 0 (cond y96 1 (cond y97 2 (cond y98 3 (cond y99 4 (cond y100 6 (cond y101 0 (cond y102 1 (cond y103 4 (cond y104 5 (cond y105 7 0)))))))))))
 .ret (.inl (.h5 y70 y106 [255])))) (
 let y107 := (ieq x.1 13)
 let y108 := (ieq x.1 15)
 let y109 := (ieq x.1 14)
 let y110 := (ieq x.1 22)
 let y111 := (ieq x.1 23)
 let y112 := (ieq x.1 19)
 let y113 := (ieq x.1 20)
 let y114 := (ieq x.1 16)
 let y115 := (ieq x.1 17)
 let y116 := (ieq x.1 18)
 let y117 : Int := (cond y69 0 (cond y107 1 (cond y108 2 (cond y109 3 (cond y110 4 (cond y111 6 (cond y112 0 (cond y113 1 (cond y114 4 (cond y115 5 (cond y116 7 0)))))))))))
 .ret (.inl (.h5 y70 y117 [255])))) (
 let y118 := (ieq x.1 13)
 let y119 := (ieq x.1 15)
 let y120 := (ieq x.1 14)
 let y121 := (ieq x.1 22)
 let y122 := (ieq x.1 23)
 let y123 := (ieq x.1 19)
 let y124 := (ieq x.1 20)
 let y125 := (ieq x.1 16)
 let y126 := (ieq x.1 17)
 let y127 := (ieq x.1 18)
 let y128 : Int := (cond y69 0 (cond y118 1 (cond y119 2 (cond y120 3 (cond y121 4 (cond y122 6 (cond y123 0 (cond y124 1 (cond y125 4 (cond y126 5 (cond y127 7 0)))))))))))
 .ret (.inl (.h5 y70 y128 [255])))) (
 let y129 := (ieq x.1 13)
 .ite y129 (
 .need ((0 : Nat) < 1) <|
 .need ((0 : Nat) < 2) <|
 .need ((1 : Nat) < 2) <|
 .need ((0 : Int) ≤ 0) <|
 .need (0 < (1 : Int)) <|
 .need ((0 : Int) ≤ 0) <|
 .need (0 < (1 : Int)) <|
 .need (((0 : Nat) + 2 : Nat) ≤ 2) <|
 let y130 : (List Int) := [4, 8]
 let y131 := x.2.2
 let y132 := y131.1
 let y133 : ((List Int) × Int) := (y130, y132)
 .need (pre99 y133) <|
 let y134 := ((fn99 y133) == true)
 .ite y134 (
 let y135 := y131.2
 let y136 := y135.1
 .need (pre119 y136) <|
 let y137 := ((fn119 y136) == true)
 .ite y137 (
 let y138 := y135.2.1
 .need (pre144 y138) <|
 let y139 := ((fn144 y138) == true)
 .ite y139 (
 .need (((0 : Nat) + 2 : Nat) ≤ 2) <|
 .need (((0 : Nat) + 1 : Nat) ≤ 1) <|
 let y140 : (Int × Unit) := (0, ())
 let y141 : ((List Int) × (Int × Unit)) := (y130, y140)
 let y142 := (ieq x.1 15)
 let y143 := (ieq x.1 14)
 let y144 := (ieq x.1 22)
 let y145 := (ieq x.1 23)
 let y146 := (ieq x.1 19)
 let y147 := (ieq x.1 20)
 let y148 := (ieq x.1 16)
 let y149 := (ieq x.1 17)
 let y150 := (ieq x.1 18)
 let y151 : Int := (cond y69 0 (cond y129 1 (cond y142 2 (cond y143 3 (cond y144 4 (cond y145 6 (cond y146 0 (cond y147 1 (cond y148 4 (cond y149 5 (cond y150 7 0)))))))))))
 let y152 : (Int × Int) := (1, 0)
 let y153 : (Int × (Int × Int)) := (y151, y152)
 let y154 : (((List Int) × (Int × Unit)) × ((Unit × (Unit × ((List Int) × (Int × (Int × Int))))) × Bool)) := (y141, (((), ((), ([255], y153))), true))
 .ret (.inr y154)) (
 let y155 := (ieq x.1 15)
 let y156 := (ieq x.1 14)
 let y157 := (ieq x.1 22)
 let y158 := (ieq x.1 23)
 let y159 := (ieq x.1 19)
 let y160 := (ieq x.1 20)
 let y161 := (ieq x.1 16)
 let y162 := (ieq x.1 17)
 let y163 := (ieq x.1 18)
 let y164 : Int := (cond y69 0 (cond y129 1 (cond y155 2 (cond y156 3 (cond y157 4 (cond y158 6 (cond y159 0 (cond y160 1 (cond y161 4 (cond y162 5 (cond y163 7 0)))))))))))
 .ret (.inl (.h5 y130 y164 [255])))) (
 let y165 := (ieq x.1 15)
 let y166 := (ieq x.1 14)
 let y167 := (ieq x.1 22)
 let y168 := (ieq x.1 23)
 let y169 := (ieq x.1 19)
 let y170 := (ieq x.1 20)
 let y171 := (ieq x.1 16)
 let y172 := (ieq x.1 17)
 let y173 := (ieq x.1 18)
 let y174 : Int := (cond y69 0 (cond y129 1 (cond y165 2 (cond y166 3 (cond y167 4 (cond y168 6 (cond y169 0 (cond y170 1 (cond y171 4 (cond y172 5 (cond y173 7 0)))))))))))
 .ret (.inl (.h5 y130 y174 [255])))) (
 let y175 := (ieq x.1 15)
 let y176 := (ieq x.1 14)
 let y177 := (ieq x.1 22)
 let y178 := (ieq x.1 23)
 let y179 := (ieq x.1 19)
 let y180 := (ieq x.1 20)
 let y181 := (ieq x.1 16)
 let y182 := (ieq x.1 17)
 let y183 := (ieq x.1 18)
 let y184 : Int := (cond y69 0 (cond y129 1 (cond y175 2 (cond y176 3 (cond y177 4 (cond y178 6 (cond y179 0 (cond y180 1 (cond y181 4 (cond y182 5 (cond y183 7 0)))))))))))
 .ret (.inl (.h5 y130 y184 [255])))) (
 let y185 := (ieq x.1 15)
 .ite y185 (
 .need ((0 : Nat) < 1) <|
 .need ((0 : Nat) < 2) <|
 .need ((1 : Nat) < 2) <|
 .need ((0 : Int) ≤ 0) <|
 .need (0 < (1 : Int)) <|
 .need ((0 : Int) ≤ 0) <|
 .need (0 < (1 : Int)) <|
 .need (((0 : Nat) + 2 : Nat) ≤ 2) <|
 let y186 : (List Int) := [4, 8]
 let y187 := x.2.2
 let y188 := y187.1
 let y189 : ((List Int) × Int) := (y186, y188)
 .need (pre99 y189) <|
 let y190 := ((fn99 y189) == true)
 .ite y190 (
 let y191 := y187.2
 let y192 := y191.1
 .need (pre119 y192) <|
 let y193 := ((fn119 y192) == true)
 .ite y193 (
 let y194 := y191.2.1
 .need (pre144 y194) <|
 let y195 := ((fn144 y194) == true)
 .ite y195 (
 .need (((0 : Nat) + 2 : Nat) ≤ 2) <|
 .need (((0 : Nat) + 1 : Nat) ≤ 1) <|
 let y196 : (Int × Unit) := (0, ())
 let y197 : ((List Int) × (Int × Unit)) := (y186, y196)
 let y198 := (ieq x.1 14)
 let y199 := (ieq x.1 22)
 let y200 := (ieq x.1 23)
 let y201 := (ieq x.1 19)
 let y202 := (ieq x.1 20)
 let y203 := (ieq x.1 16)
 let y204 := (ieq x.1 17)
 let y205 := (ieq x.1 18)
 let y206 : Int := (cond y69 0 (cond y129 1 (cond y185 2 (cond y198 3 (cond y199 4 (cond y200 6 (cond y201 0 (cond y202 1 (cond y203 4 (cond y204 5 (cond y205 7 0)))))))))))
 let y207 : (Int × Int) := (1, 0)
 let y208 : (Int × (Int × Int)) := (y206, y207)
 let y209 : (((List Int) × (Int × Unit)) × ((Unit × (Unit × ((List Int) × (Int × (Int × Int))))) × Bool)) := (y197, (((), ((), ([247], y208))), true))
 .ret (.inr y209)) (
 let y210 := (ieq x.1 14)
 let y211 := (ieq x.1 22)
 let y212 := (ieq x.1 23)
 let y213 := (ieq x.1 19)
 let y214 := (ieq x.1 20)
 let y215 := (ieq x.1 16)
 let y216 := (ieq x.1 17)
 let y217 := (ieq x.1 18)
 let y218 : Int := (cond y69 0 (cond y129 1 (cond y185 2 (cond y210 3 (cond y211 4 (cond y212 6 (cond y213 0 (cond y214 1 (cond y215 4 (cond y216 5 (cond y217 7 0)))))))))))
 .ret (.inl (.h5 y186 y218 [247])))) (
 let y219 := (ieq x.1 14)
 let y220 := (ieq x.1 22)
 let y221 := (ieq x.1 23)
 let y222 := (ieq x.1 19)
 let y223 := (ieq x.1 20)
 let y224 := (ieq x.1 16)
 let y225 := (ieq x.1 17)
 let y226 := (ieq x.1 18)
 let y227 : Int := (cond y69 0 (cond y129 1 (cond y185 2 (cond y219 3 (cond y220 4 (cond y221 6 (cond y222 0 (cond y223 1 (cond y224 4 (cond y225 5 (cond y226 7 0)))))))))))
 .ret (.inl (.h5 y186 y227 [247])))) (
 let y228 := (ieq x.1 14)
 let y229 := (ieq x.1 22)
 let y230 := (ieq x.1 23)
 let y231 := (ieq x.1 19)
 let y232 := (ieq x.1 20)
 let y233 := (ieq x.1 16)
 let y234 := (ieq x.1 17)
 let y235 := (ieq x.1 18)
 let y236 : Int := (cond y69 0 (cond y129 1 (cond y185 2 (cond y228 3 (cond y229 4 (cond y230 6 (cond y231 0 (cond y232 1 (cond y233 4 (cond y234 5 (cond y235 7 0)))))))))))
 .ret (.inl (.h5 y186 y236 [247])))) (
 let y237 := (ieq x.1 14)
 .ite y237 (
 .need ((0 : Nat) < 1) <|
 .need ((0 : Nat) < 2) <|
 .need ((1 : Nat) < 2) <|
 .need ((0 : Int) ≤ 0) <|
 .need (0 < (1 : Int)) <|
 .need ((0 : Int) ≤ 0) <|
 .need (0 < (1 : Int)) <|
 .need (((0 : Nat) + 2 : Nat) ≤ 2) <|
 let y238 : (List Int) := [4, 8]
 let y239 := x.2.2
 let y240 := y239.1
 let y241 : ((List Int) × Int) := (y238, y240)
 .need (pre99 y241) <|
 let y242 := ((fn99 y241) == true)
 .ite y242 (
 let y243 := y239.2
 let y244 := y243.1
 .need (pre119 y244) <|
 let y245 := ((fn119 y244) == true)
 .ite y245 (
 let y246 := y243.2.1
 .need (pre144 y246) <|
 let y247 := ((fn144 y246) == true)
 .ite y247 (
 .need (((0 : Nat) + 2 : Nat) ≤ 2) <|
 .need (((0 : Nat) + 1 : Nat) ≤ 1) <|
 let y248 : (Int × Unit) := (0, ())
 let y249 : ((List Int) × (Int × Unit)) := (y238, y248)
 let y250 := (ieq x.1 22)
 let y251 := (ieq x.1 23)
 let y252 := (ieq x.1 19)
 let y253 := (ieq x.1 20)
 let y254 := (ieq x.1 16)
 let y255 := (ieq x.1 17)
 let y256 := (ieq x.1 18)
 let y257 : Int := (cond y69 0 (cond y129 1 (cond y185 2 (cond y237 3 (cond y250 4 (cond y251 6 (cond y252 0 (cond y253 1 (cond y254 4 (cond y255 5 (cond y256 7 0)))))))))))
 let y258 : (Int × Int) := (1, 0)
 let y259 : (Int × (Int × Int)) := (y257, y258)
 let y260 : (((List Int) × (Int × Unit)) × ((Unit × (Unit × ((List Int) × (Int × (Int × Int))))) × Bool)) := (y249, (((), ((), ([247], y259))), true))
 .ret (.inr y260)) (
 let y261 := (ieq x.1 22)
 let y262 := (ieq x.1 23)
 let y263 := (ieq x.1 19)
 let y264 := (ieq x.1 20)
 let y265 := (ieq x.1 16)
 let y266 := (ieq x.1 17)
 let y267 := (ieq x.1 18)
 let y268 : Int := (cond y69 0 (cond y129 1 (cond y185 2 (cond y237 3 (cond y261 4 (cond y262 6 (cond y263 0 (cond y264 1 (cond y265 4 (cond y266 5 (cond y267 7 0)))))))))))
 .ret (.inl (.h5 y238 y268 [247])))) (
 let y269 := (ieq x.1 22)
 let y270 := (ieq x.1 23)
 let y271 := (ieq x.1 19)
 let y272 := (ieq x.1 20)
 let y273 := (ieq x.1 16)
 let y274 := (ieq x.1 17)
 let y275 := (ieq x.1 18)
 let y276 : Int := (cond y69 0 (cond y129 1 (cond y185 2 (cond y237 3 (cond y269 4 (cond y270 6 (cond y271 0 (cond y272 1 (cond y273 4 (cond y274 5 (cond y275 7 0)))))))))))
 .ret (.inl (.h5 y238 y276 [247])))) (
 let y277 := (ieq x.1 22)
 let y278 := (ieq x.1 23)
 let y279 := (ieq x.1 19)
 let y280 := (ieq x.1 20)
 let y281 := (ieq x.1 16)
 let y282 := (ieq x.1 17)
 let y283 := (ieq x.1 18)
 let y284 : Int := (cond y69 0 (cond y129 1 (cond y185 2 (cond y237 3 (cond y277 4 (cond y278 6 (cond y279 0 (cond y280 1 (cond y281 4 (cond y282 5 (cond y283 7 0)))))))))))
 .ret (.inl (.h5 y238 y284 [247])))) (
 let y285 := (ieq x.1 22)
 .ite y285 (
 .need ((0 : Nat) < 1) <|
 .need ((0 : Nat) < 2) <|
 .need ((1 : Nat) < 2) <|
 .need ((0 : Int) ≤ 0) <|
 .need (0 < (1 : Int)) <|
 .need ((0 : Int) ≤ 0) <|
 .need (0 < (1 : Int)) <|
 .need (((0 : Nat) + 2 : Nat) ≤ 2) <|
 let y286 : (List Int) := [4, 8]
 let y287 := x.2.2
 let y288 := y287.1
 let y289 : ((List Int) × Int) := (y286, y288)
 .need (pre99 y289) <|
 let y290 := ((fn99 y289) == true)
 .ite y290 (
 let y291 := y287.2
 let y292 := y291.1
 .need (pre119 y292) <|
 let y293 := ((fn119 y292) == true)
 .ite y293 (
 let y294 := y291.2.1
 .need (pre144 y294) <|
 let y295 := ((fn144 y294) == true)
 .ite y295 (
 .need (((0 : Nat) + 2 : Nat) ≤ 2) <|
 .need (((0 : Nat) + 1 : Nat) ≤ 1) <|
 let y296 : (Int × Unit) := (0, ())
 let y297 : ((List Int) × (Int × Unit)) := (y286, y296)
 let y298 := (ieq x.1 23)
 let y299 := (ieq x.1 19)
 let y300 := (ieq x.1 20)
 let y301 := (ieq x.1 16)
 let y302 := (ieq x.1 17)
 let y303 := (ieq x.1 18)
 let y304 : Int := (cond y69 0 (cond y129 1 (cond y185 2 (cond y237 3 (cond y285 4 (cond y298 6 (cond y299 0 (cond y300 1 (cond y301 4 (cond y302 5 (cond y303 7 0)))))))))))
 let y305 : (Int × Int) := (1, 0)
 let y306 : (Int × (Int × Int)) := (y304, y305)
 let y307 : (((List Int) × (Int × Unit)) × ((Unit × (Unit × ((List Int) × (Int × (Int × Int))))) × Bool)) := (y297, (((), ((), ([247], y306))), true))
 .ret (.inr y307)) (
 let y308 := (ieq x.1 23)
 let y309 := (ieq x.1 19)
 let y310 := (ieq x.1 20)
 let y311 := (ieq x.1 16)
 let y312 := (ieq x.1 17)
 let y313 := (ieq x.1 18)
 let y314 : Int := (cond y69 0 (cond y129 1 (cond y185 2 (cond y237 3 (cond y285 4 (cond y308 6 (cond y309 0 (cond y310 1 (cond y311 4 (cond y312 5 (cond y313 7 0)))))))))))
 .ret (.inl (.h5 y286 y314 [247])))) (
 let y315 := (ieq x.1 23)
 let y316 := (ieq x.1 19)
 let y317 := (ieq x.1 20)
 let y318 := (ieq x.1 16)
 let y319 := (ieq x.1 17)
 let y320 := (ieq x.1 18)
 let y321 : Int := (cond y69 0 (cond y129 1 (cond y185 2 (cond y237 3 (cond y285 4 (cond y315 6 (cond y316 0 (cond y317 1 (cond y318 4 (cond y319 5 (cond y320 7 0)))))))))))
 .ret (.inl (.h5 y286 y321 [247])))) (
 let y322 := (ieq x.1 23)
 let y323 := (ieq x.1 19)
 let y324 := (ieq x.1 20)
 let y325 := (ieq x.1 16)
 let y326 := (ieq x.1 17)
 let y327 := (ieq x.1 18)
 let y328 : Int := (cond y69 0 (cond y129 1 (cond y185 2 (cond y237 3 (cond y285 4 (cond y322 6 (cond y323 0 (cond y324 1 (cond y325 4 (cond y326 5 (cond y327 7 0)))))))))))
 .ret (.inl (.h5 y286 y328 [247])))) (
 let y329 := (ieq x.1 23)
 .ite y329 (
 .need ((0 : Nat) < 1) <|
 .need ((0 : Nat) < 2) <|
 .need ((1 : Nat) < 2) <|
 .need ((0 : Int) ≤ 0) <|
 .need (0 < (1 : Int)) <|
 .need ((0 : Int) ≤ 0) <|
 .need (0 < (1 : Int)) <|
 .need (((0 : Nat) + 2 : Nat) ≤ 2) <|
 let y330 : (List Int) := [4, 8]
 let y331 := x.2.2
 let y332 := y331.1
 let y333 : ((List Int) × Int) := (y330, y332)
 .need (pre99 y333) <|
 let y334 := ((fn99 y333) == true)
 .ite y334 (
 let y335 := y331.2
 let y336 := y335.1
 .need (pre119 y336) <|
 let y337 := ((fn119 y336) == true)
 .ite y337 (
 let y338 := y335.2.1
 .need (pre144 y338) <|
 let y339 := ((fn144 y338) == true)
 .ite y339 (
 .need (((0 : Nat) + 2 : Nat) ≤ 2) <|
 .need (((0 : Nat) + 1 : Nat) ≤ 1) <|
 let y340 : (Int × Unit) := (0, ())
 let y341 : ((List Int) × (Int × Unit)) := (y330, y340)
 let y342 := (ieq x.1 19)
 let y343 := (ieq x.1 20)
 let y344 := (ieq x.1 16)
 let y345 := (ieq x.1 17)
 let y346 := (ieq x.1 18)
 let y347 : Int := (cond y69 0 (cond y129 1 (cond y185 2 (cond y237 3 (cond y285 4 (cond y329 6 (cond y342 0 (cond y343 1 (cond y344 4 (cond y345 5 (cond y346 7 0)))))))))))
 let y348 : (Int × Int) := (1, 0)
 let y349 : (Int × (Int × Int)) := (y347, y348)
 let y350 : (((List Int) × (Int × Unit)) × ((Unit × (Unit × ((List Int) × (Int × (Int × Int))))) × Bool)) := (y341, (((), ((), ([247], y349))), true))
 .ret (.inr y350)) (
 let y351 := (ieq x.1 19)
 let y352 := (ieq x.1 20)
 let y353 := (ieq x.1 16)
 let y354 := (ieq x.1 17)
 let y355 := (ieq x.1 18)
 let y356 : Int := (cond y69 0 (cond y129 1 (cond y185 2 (cond y237 3 (cond y285 4 (cond y329 6 (cond y351 0 (cond y352 1 (cond y353 4 (cond y354 5 (cond y355 7 0)))))))))))
 .ret (.inl (.h5 y330 y356 [247])))) (
 let y357 := (ieq x.1 19)
 let y358 := (ieq x.1 20)
 let y359 := (ieq x.1 16)
 let y360 := (ieq x.1 17)
 let y361 := (ieq x.1 18)
 let y362 : Int := (cond y69 0 (cond y129 1 (cond y185 2 (cond y237 3 (cond y285 4 (cond y329 6 (cond y357 0 (cond y358 1 (cond y359 4 (cond y360 5 (cond y361 7 0)))))))))))
 .ret (.inl (.h5 y330 y362 [247])))) (
 let y363 := (ieq x.1 19)
 let y364 := (ieq x.1 20)
 let y365 := (ieq x.1 16)
 let y366 := (ieq x.1 17)
 let y367 := (ieq x.1 18)
 let y368 : Int := (cond y69 0 (cond y129 1 (cond y185 2 (cond y237 3 (cond y285 4 (cond y329 6 (cond y363 0 (cond y364 1 (cond y365 4 (cond y366 5 (cond y367 7 0)))))))))))
 .ret (.inl (.h5 y330 y368 [247])))) (
 let y369 := (ieq x.1 19)
 .ite y369 (
 .need ((0 : Nat) < 1) <|
 .need ((0 : Nat) < 1) <|
 .need ((0 : Nat) < 2) <|
 .need ((1 : Nat) < 2) <|
 .need ((0 : Int) ≤ 0) <|
 .need (0 < (1 : Int)) <|
 .need ((0 : Int) ≤ 0) <|
 .need (0 < (2 : Int)) <|
 .need (((0 : Nat) + 2 : Nat) ≤ 2) <|
 let y370 : (List Int) := [4, 8]
 let y371 := x.2.2
 let y372 := y371.1
 let y373 : ((List Int) × Int) := (y370, y372)
 .need (pre99 y373) <|
 let y374 := ((fn99 y373) == true)
 .ite y374 (
 let y375 := y371.2
 let y376 := y375.1
 .need (pre119 y376) <|
 let y377 := ((fn119 y376) == true)
 .ite y377 (
 let y378 := y375.2.1
 .need (pre129 y378) <|
 let y379 := ((fn129 y378) == true)
 .ite y379 (
 .need (((0 : Nat) + 2 : Nat) ≤ 2) <|
 .need (((0 : Nat) + 1 : Nat) ≤ 1) <|
 let y380 : (Int × Unit) := (0, ())
 let y381 : ((List Int) × (Int × Unit)) := (y370, y380)
 let y382 := (ieq x.1 20)
 let y383 := (ieq x.1 16)
 let y384 := (ieq x.1 17)
 let y385 := (ieq x.1 18)
 let y386 : Int := (cond y69 0 (cond y129 1 (cond y185 2 (cond y237 3 (cond y285 4 (cond y329 6 (cond y369 0 (cond y382 1 (cond y383 4 (cond y384 5 (cond y385 7 0)))))))))))
 let y387 : (((List Int) × (Int × Unit)) × ((Unit × (Unit × ((List Int) × (Int × (Int × Int))))) × Bool)) := (y381, (((), ((), ([193], (y386, (1, 1))))), true))
 .ret (.inr y387)) (
 let y388 := (ieq x.1 20)
 let y389 := (ieq x.1 16)
 let y390 := (ieq x.1 17)
 let y391 := (ieq x.1 18)
 let y392 : Int := (cond y69 0 (cond y129 1 (cond y185 2 (cond y237 3 (cond y285 4 (cond y329 6 (cond y369 0 (cond y388 1 (cond y389 4 (cond y390 5 (cond y391 7 0)))))))))))
 .ret (.inl (.h6 y370 y392 y392 [193] [211])))) (
 let y393 := (ieq x.1 20)
 let y394 := (ieq x.1 16)
 let y395 := (ieq x.1 17)
 let y396 := (ieq x.1 18)
 let y397 : Int := (cond y69 0 (cond y129 1 (cond y185 2 (cond y237 3 (cond y285 4 (cond y329 6 (cond y369 0 (cond y393 1 (cond y394 4 (cond y395 5 (cond y396 7 0)))))))))))
 .ret (.inl (.h6 y370 y397 y397 [193] [211])))) (
 let y398 := (ieq x.1 20)
 let y399 := (ieq x.1 16)
 let y400 := (ieq x.1 17)
 let y401 := (ieq x.1 18)
 let y402 : Int := (cond y69 0 (cond y129 1 (cond y185 2 (cond y237 3 (cond y285 4 (cond y329 6 (cond y369 0 (cond y398 1 (cond y399 4 (cond y400 5 (cond y401 7 0)))))))))))
 .ret (.inl (.h6 y370 y402 y402 [193] [211])))) (
 let y403 := (ieq x.1 20)
 .ite y403 (
 .need ((0 : Nat) < 1) <|
 .need ((0 : Nat) < 1) <|
 .need ((0 : Nat) < 2) <|
 .need ((1 : Nat) < 2) <|
 .need ((0 : Int) ≤ 0) <|
 .need (0 < (1 : Int)) <|
 .need ((0 : Int) ≤ 0) <|
 .need (0 < (2 : Int)) <|
 .need (((0 : Nat) + 2 : Nat) ≤ 2) <|
 let y404 : (List Int) := [4, 8]
 let y405 := x.2.2
 let y406 := y405.1
 let y407 : ((List Int) × Int) := (y404, y406)
 .need (pre99 y407) <|
 let y408 := ((fn99 y407) == true)
 .ite y408 (
 let y409 := y405.2
 let y410 := y409.1
 .need (pre119 y410) <|
 let y411 := ((fn119 y410) == true)
 .ite y411 (
 let y412 := y409.2.1
 .need (pre129 y412) <|
 let y413 := ((fn129 y412) == true)
 .ite y413 (
 .need (((0 : Nat) + 2 : Nat) ≤ 2) <|
 .need (((0 : Nat) + 1 : Nat) ≤ 1) <|
 let y414 : (Int × Unit) := (0, ())
 let y415 : ((List Int) × (Int × Unit)) := (y404, y414)
 let y416 := (ieq x.1 16)
 let y417 := (ieq x.1 17)
 let y418 := (ieq x.1 18)
 let y419 : Int := (cond y69 0 (cond y129 1 (cond y185 2 (cond y237 3 (cond y285 4 (cond y329 6 (cond y369 0 (cond y403 1 (cond y416 4 (cond y417 5 (cond y418 7 0)))))))))))
 let y420 : (((List Int) × (Int × Unit)) × ((Unit × (Unit × ((List Int) × (Int × (Int × Int))))) × Bool)) := (y415, (((), ((), ([193], (y419, (1, 1))))), true))
 .ret (.inr y420)) (
 let y421 := (ieq x.1 16)
 let y422 := (ieq x.1 17)
 let y423 := (ieq x.1 18)
 let y424 : Int := (cond y69 0 (cond y129 1 (cond y185 2 (cond y237 3 (cond y285 4 (cond y329 6 (cond y369 0 (cond y403 1 (cond y421 4 (cond y422 5 (cond y423 7 0)))))))))))
 .ret (.inl (.h6 y404 y424 y424 [193] [211])))) (
 let y425 := (ieq x.1 16)
 let y426 := (ieq x.1 17)
 let y427 := (ieq x.1 18)
 let y428 : Int := (cond y69 0 (cond y129 1 (cond y185 2 (cond y237 3 (cond y285 4 (cond y329 6 (cond y369 0 (cond y403 1 (cond y425 4 (cond y426 5 (cond y427 7 0)))))))))))
 .ret (.inl (.h6 y404 y428 y428 [193] [211])))) (
 let y429 := (ieq x.1 16)
 let y430 := (ieq x.1 17)
 let y431 := (ieq x.1 18)
 let y432 : Int := (cond y69 0 (cond y129 1 (cond y185 2 (cond y237 3 (cond y285 4 (cond y329 6 (cond y369 0 (cond y403 1 (cond y429 4 (cond y430 5 (cond y431 7 0)))))))))))
 .ret (.inl (.h6 y404 y432 y432 [193] [211])))) (
 let y433 := (ieq x.1 16)
 .ite y433 (
 .need ((0 : Nat) < 1) <|
 .need ((0 : Nat) < 1) <|
 .need ((0 : Nat) < 2) <|
 .need ((1 : Nat) < 2) <|
 .need ((0 : Int) ≤ 0) <|
 .need (0 < (1 : Int)) <|
 .need ((0 : Int) ≤ 0) <|
 .need (0 < (2 : Int)) <|
 .need (((0 : Nat) + 2 : Nat) ≤ 2) <|
 let y434 : (List Int) := [4, 8]
 let y435 := x.2.2
 let y436 := y435.1
 let y437 : ((List Int) × Int) := (y434, y436)
 .need (pre99 y437) <|
 let y438 := ((fn99 y437) == true)
 .ite y438 (
 let y439 := y435.2
 let y440 := y439.1
 .need (pre119 y440) <|
 let y441 := ((fn119 y440) == true)
 .ite y441 (
 let y442 := y439.2.1
 .need (pre129 y442) <|
 let y443 := ((fn129 y442) == true)
 .ite y443 (
 .need (((0 : Nat) + 2 : Nat) ≤ 2) <|
 .need (((0 : Nat) + 1 : Nat) ≤ 1) <|
 let y444 : (Int × Unit) := (0, ())
 let y445 : ((List Int) × (Int × Unit)) := (y434, y444)
 let y446 := (ieq x.1 17)
 let y447 := (ieq x.1 18)
 let y448 : Int := (cond y69 0 (cond y129 1 (cond y185 2 (cond y237 3 (cond y285 4 (cond y329 6 (cond y369 0 (cond y403 1 (cond y433 4 (cond y446 5 (cond y447 7 0)))))))))))
 let y449 : (((List Int) × (Int × Unit)) × ((Unit × (Unit × ((List Int) × (Int × (Int × Int))))) × Bool)) := (y445, (((), ((), ([193], (y448, (1, 1))))), true))
 .ret (.inr y449)) (
 let y450 := (ieq x.1 17)
 let y451 := (ieq x.1 18)
 let y452 : Int := (cond y69 0 (cond y129 1 (cond y185 2 (cond y237 3 (cond y285 4 (cond y329 6 (cond y369 0 (cond y403 1 (cond y433 4 (cond y450 5 (cond y451 7 0)))))))))))
 .ret (.inl (.h6 y434 y452 y452 [193] [211])))) (
 let y453 := (ieq x.1 17)
 let y454 := (ieq x.1 18)
 let y455 : Int := (cond y69 0 (cond y129 1 (cond y185 2 (cond y237 3 (cond y285 4 (cond y329 6 (cond y369 0 (cond y403 1 (cond y433 4 (cond y453 5 (cond y454 7 0)))))))))))
 .ret (.inl (.h6 y434 y455 y455 [193] [211])))) (
 let y456 := (ieq x.1 17)
 let y457 := (ieq x.1 18)
 let y458 : Int := (cond y69 0 (cond y129 1 (cond y185 2 (cond y237 3 (cond y285 4 (cond y329 6 (cond y369 0 (cond y403 1 (cond y433 4 (cond y456 5 (cond y457 7 0)))))))))))
 .ret (.inl (.h6 y434 y458 y458 [193] [211])))) (
 let y459 := (ieq x.1 17)
 .ite y459 (
 .need ((0 : Nat) < 1) <|
 .need ((0 : Nat) < 1) <|
 .need ((0 : Nat) < 2) <|
 .need ((1 : Nat) < 2) <|
 .need ((0 : Int) ≤ 0) <|
 .need (0 < (1 : Int)) <|
 .need ((0 : Int) ≤ 0) <|
 .need (0 < (2 : Int)) <|
 .need (((0 : Nat) + 2 : Nat) ≤ 2) <|
 let y460 : (List Int) := [4, 8]
 let y461 := x.2.2
 let y462 := y461.1
 let y463 : ((List Int) × Int) := (y460, y462)
 .need (pre99 y463) <|
 let y464 := ((fn99 y463) == true)
 .ite y464 (
 let y465 := y461.2
 let y466 := y465.1
 .need (pre119 y466) <|
 let y467 := ((fn119 y466) == true)
 .ite y467 (
 let y468 := y465.2.1
 .need (pre129 y468) <|
 let y469 := ((fn129 y468) == true)
 .ite y469 (
 .need (((0 : Nat) + 2 : Nat) ≤ 2) <|
 .need (((0 : Nat) + 1 : Nat) ≤ 1) <|
 let y470 : (Int × Unit) := (0, ())
 let y471 : ((List Int) × (Int × Unit)) := (y460, y470)
 let y472 := (ieq x.1 18)
 let y473 : Int := (cond y69 0 (cond y129 1 (cond y185 2 (cond y237 3 (cond y285 4 (cond y329 6 (cond y369 0 (cond y403 1 (cond y433 4 (cond y459 5 (cond y472 7 0)))))))))))
 let y474 : (((List Int) × (Int × Unit)) × ((Unit × (Unit × ((List Int) × (Int × (Int × Int))))) × Bool)) := (y471, (((), ((), ([193], (y473, (1, 1))))), true))
 .ret (.inr y474)) (
 let y475 := (ieq x.1 18)
 let y476 : Int := (cond y69 0 (cond y129 1 (cond y185 2 (cond y237 3 (cond y285 4 (cond y329 6 (cond y369 0 (cond y403 1 (cond y433 4 (cond y459 5 (cond y475 7 0)))))))))))
 .ret (.inl (.h6 y460 y476 y476 [193] [211])))) (
 let y477 := (ieq x.1 18)
 let y478 : Int := (cond y69 0 (cond y129 1 (cond y185 2 (cond y237 3 (cond y285 4 (cond y329 6 (cond y369 0 (cond y403 1 (cond y433 4 (cond y459 5 (cond y477 7 0)))))))))))
 .ret (.inl (.h6 y460 y478 y478 [193] [211])))) (
 let y479 := (ieq x.1 18)
 let y480 : Int := (cond y69 0 (cond y129 1 (cond y185 2 (cond y237 3 (cond y285 4 (cond y329 6 (cond y369 0 (cond y403 1 (cond y433 4 (cond y459 5 (cond y479 7 0)))))))))))
 .ret (.inl (.h6 y460 y480 y480 [193] [211])))) (
 let y481 := (ieq x.1 18)
 .ite y481 (
 .need ((0 : Nat) < 1) <|
 .need ((0 : Nat) < 1) <|
 .need ((0 : Nat) < 2) <|
 .need ((1 : Nat) < 2) <|
 .need ((0 : Int) ≤ 0) <|
 .need (0 < (1 : Int)) <|
 .need ((0 : Int) ≤ 0) <|
 .need (0 < (2 : Int)) <|
 .need (((0 : Nat) + 2 : Nat) ≤ 2) <|
 let y482 : (List Int) := [4, 8]
 let y483 := x.2.2
 let y484 := y483.1
 let y485 : ((List Int) × Int) := (y482, y484)
 .need (pre99 y485) <|
 let y486 := ((fn99 y485) == true)
 .ite y486 (
 let y487 := y483.2
 let y488 := y487.1
 .need (pre119 y488) <|
 let y489 := ((fn119 y488) == true)
 .ite y489 (
 let y490 := y487.2.1
 .need (pre129 y490) <|
 let y491 := ((fn129 y490) == true)
 .ite y491 (
 .need (((0 : Nat) + 2 : Nat) ≤ 2) <|
 .need (((0 : Nat) + 1 : Nat) ≤ 1) <|
 let y492 : (Int × Unit) := (0, ())
 let y493 : ((List Int) × (Int × Unit)) := (y482, y492)
 let y494 : Int := (cond y69 0 (cond y129 1 (cond y185 2 (cond y237 3 (cond y285 4 (cond y329 6 (cond y369 0 (cond y403 1 (cond y433 4 (cond y459 5 (cond y481 7 0)))))))))))
 let y495 : (((List Int) × (Int × Unit)) × ((Unit × (Unit × ((List Int) × (Int × (Int × Int))))) × Bool)) := (y493, (((), ((), ([193], (y494, (1, 1))))), true))
 .ret (.inr y495)) (
 let y496 : Int := (cond y69 0 (cond y129 1 (cond y185 2 (cond y237 3 (cond y285 4 (cond y329 6 (cond y369 0 (cond y403 1 (cond y433 4 (cond y459 5 (cond y481 7 0)))))))))))
 .ret (.inl (.h6 y482 y496 y496 [193] [211])))) (
 let y497 : Int := (cond y69 0 (cond y129 1 (cond y185 2 (cond y237 3 (cond y285 4 (cond y329 6 (cond y369 0 (cond y403 1 (cond y433 4 (cond y459 5 (cond y481 7 0)))))))))))
 .ret (.inl (.h6 y482 y497 y497 [193] [211])))) (
 let y498 : Int := (cond y69 0 (cond y129 1 (cond y185 2 (cond y237 3 (cond y285 4 (cond y329 6 (cond y369 0 (cond y403 1 (cond y433 4 (cond y459 5 (cond y481 7 0)))))))))))
 .ret (.inl (.h6 y482 y498 y498 [193] [211])))) (
 .ite (ieq x.1 21) (
 .need ((0 : Nat) < 2) <|
 .need ((1 : Nat) < 2) <|
 .need ((0 : Nat) < 2) <|
 .need ((1 : Nat) < 2) <|
 .need ((0 : Int) ≤ 0) <|
 .need (0 < (1 : Int)) <|
 .need ((0 : Int) ≤ 0) <|
 .need (0 < (1 : Int)) <|
 .need (((0 : Nat) + 2 : Nat) ≤ 2) <|
 let y499 : (List Int) := [4, 8]
 let y500 := x.2.2
 let y501 := y500.1
 let y502 : ((List Int) × Int) := (y499, y501)
 .need (pre99 y502) <|
 let y503 := ((fn99 y502) == true)
 .ite y503 (
 let y504 := y500.2
 let y505 := y504.1
 .need (pre120 y505) <|
 let y506 := ((fn120 y505) == true)
 .ite y506 (
 let y507 := y504.2.1
 .need (pre119 y507) <|
 let y508 := ((fn119 y507) == true)
 .ite y508 (
 .need (((0 : Nat) + 2 : Nat) ≤ 2) <|
 .need (((0 : Nat) + 2 : Nat) ≤ 2) <|
 let y509 : (Int × Unit) := (0, ())
 let y510 : ((List Int) × (Int × Unit)) := (y499, y509)
 let y511 : (List Int) := [15, 175]
 let y512 : (Int × (Int × Int)) := ((-1), (2, 0))
 .ret (.inr (y510, (((), ((), (y511, y512))), true)))) (
 let y513 : (List Int) := [15, 175]
 .ret (.inl (.h7 y499 y513)))) (
 let y514 : (List Int) := [15, 175]
 .ret (.inl (.h7 y499 y514)))) (
 let y515 : (List Int) := [15, 175]
 .ret (.inl (.h7 y499 y515)))) (
 .ite (ieq x.1 30) (
 .need ((0 : Nat) < 2) <|
 .need ((1 : Nat) < 2) <|
 .need ((0 : Nat) < 2) <|
 .need ((1 : Nat) < 2) <|
 .need ((0 : Int) ≤ 0) <|
 .need (0 < (1 : Int)) <|
 .need ((0 : Int) ≤ 0) <|
 .need (0 < (1 : Int)) <|
 .need (((0 : Nat) + 2 : Nat) ≤ 2) <|
 let y516 : (List Int) := [4, 8]
 let y517 := x.2.2
 let y518 := y517.1
 let y519 : ((List Int) × Int) := (y516, y518)
 .need (pre99 y519) <|
 let y520 := ((fn99 y519) == true)
 .ite y520 (
 let y521 := y517.2
 let y522 := y521.1
 .need (pre120 y522) <|
 let y523 := ((fn120 y522) == true)
 .ite y523 (
 let y524 := y521.2.1
 .need (pre119 y524) <|
 let y525 := ((fn119 y524) == true)
 .ite y525 (
 .need (((0 : Nat) + 2 : Nat) ≤ 2) <|
 .need (((0 : Nat) + 2 : Nat) ≤ 2) <|
 let y526 : (Int × Unit) := (0, ())
 let y527 : ((List Int) × (Int × Unit)) := (y516, y526)
 let y528 : Int := (iand .u8 x.2.1 15)
 let y529 : (List Int) := [15, (iadd .u8 64 y528)]
 let y530 : (Int × (Int × Int)) := ((-1), (2, 0))
 .ret (.inr (y527, (((), ((), (y529, y530))), true)))) (
 let y531 : Int := (iand .u8 x.2.1 15)
 let y532 : (List Int) := [15, (iadd .u8 64 y531)]
 .ret (.inl (.h7 y516 y532)))) (
 let y533 : Int := (iand .u8 x.2.1 15)
 let y534 : (List Int) := [15, (iadd .u8 64 y533)]
 .ret (.inl (.h7 y516 y534)))) (
 let y535 : Int := (iand .u8 x.2.1 15)
 let y536 : (List Int) := [15, (iadd .u8 64 y535)]
 .ret (.inl (.h7 y516 y536)))) (
 .ite (ieq x.1 31) (
 .need ((0 : Nat) < 1) <|
 .need ((0 : Nat) < 2) <|
 .need ((1 : Nat) < 2) <|
 .need ((0 : Int) ≤ 0) <|
 .need (0 < (1 : Int)) <|
 .need ((0 : Int) ≤ 0) <|
 .need (0 < (1 : Int)) <|
 .need (((0 : Nat) + 1 : Nat) ≤ 1) <|
 let y537 := x.2.2
 let y538 := y537.1
 let y539 : ((List Int) × Int) := ([1], y538)
 .need (pre99 y539) <|
 let y540 := ((fn99 y539) == true)
 .ite y540 (
 let y541 := y537.2
 let y542 := y541.1
 .need (pre119 y542) <|
 let y543 := ((fn119 y542) == true)
 .ite y543 (
 let y544 := y541.2.1
 .need (pre144 y544) <|
 let y545 := ((fn144 y544) == true)
 .ite y545 (
 .need (((0 : Nat) + 1 : Nat) ≤ 1) <|
 .need (((0 : Nat) + 2 : Nat) ≤ 2) <|
 let y546 : (Int × Unit) := (0, ())
 let y547 : ((List Int) × (Int × Unit)) := ([1], y546)
 let y548 : Int := (iand .u8 x.2.1 15)
 let y549 : (List Int) := [15, (iadd .u8 144 y548)]
 let y550 : (Int × Int) := (1, 0)
 .ret (.inr (y547, (((), ((), (y549, (0, y550)))), true)))) (
 let y551 : Int := (iand .u8 x.2.1 15)
 let y552 : (List Int) := [15, (iadd .u8 144 y551)]
 .ret (.inl (.h8 [1] y552)))) (
 let y553 : Int := (iand .u8 x.2.1 15)
 let y554 : (List Int) := [15, (iadd .u8 144 y553)]
 .ret (.inl (.h8 [1] y554)))) (
 let y555 : Int := (iand .u8 x.2.1 15)
 let y556 : (List Int) := [15, (iadd .u8 144 y555)]
 .ret (.inl (.h8 [1] y556)))) (
 .ite (ieq x.1 32) (
 .need ((0 : Nat) < 2) <|
 .need ((1 : Nat) < 2) <|
 .need ((0 : Nat) < 2) <|
 .need ((1 : Nat) < 2) <|
 .need ((0 : Int) ≤ 0) <|
 .need (0 < (1 : Int)) <|
 .need ((0 : Int) ≤ 0) <|
 .need (0 < (1 : Int)) <|
 .need (((0 : Nat) + 2 : Nat) ≤ 2) <|
 let y557 : (List Int) := [4, 8]
 let y558 := x.2.2
 let y559 := y558.1
 let y560 : ((List Int) × Int) := (y557, y559)
 .need (pre99 y560) <|
 let y561 := ((fn99 y560) == true)
 .ite y561 (
 let y562 := y558.2
 let y563 := y562.1
 .need (pre120 y563) <|
 let y564 := ((fn120 y563) == true)
 .ite y564 (
 let y565 := y562.2.1
 .need (pre119 y565) <|
 let y566 := ((fn119 y565) == true)
 .ite y566 (
 .need (((0 : Nat) + 2 : Nat) ≤ 2) <|
 .need (((0 : Nat) + 2 : Nat) ≤ 2) <|
 let y567 : (Int × Unit) := (0, ())
 let y568 : ((List Int) × (Int × Unit)) := (y557, y567)
 let y569 : (List Int) := [15, 182]
 let y570 : (Int × (Int × Int)) := ((-1), (2, 0))
 .ret (.inr (y568, (((), ((), (y569, y570))), true)))) (
 let y571 : (List Int) := [15, 182]
 .ret (.inl (.h7 y557 y571)))) (
 let y572 : (List Int) := [15, 182]
 .ret (.inl (.h7 y557 y572)))) (
 let y573 : (List Int) := [15, 182]
 .ret (.inl (.h7 y557 y573)))) (
 .ite (ieq x.1 33) (
 .need ((0 : Nat) < 2) <|
 .need ((1 : Nat) < 2) <|
 .need ((0 : Nat) < 2) <|
 .need ((1 : Nat) < 2) <|
 .need ((0 : Int) ≤ 0) <|
 .need (0 < (1 : Int)) <|
 .need ((0 : Int) ≤ 0) <|
 .need (0 < (1 : Int)) <|
 .need (((0 : Nat) + 2 : Nat) ≤ 2) <|
 let y574 : (List Int) := [4, 8]
 let y575 := x.2.2
 let y576 := y575.1
 let y577 : ((List Int) × Int) := (y574, y576)
 .need (pre99 y577) <|
 let y578 := ((fn99 y577) == true)
 .ite y578 (
 let y579 := y575.2
 let y580 := y579.1
 .need (pre120 y580) <|
 let y581 := ((fn120 y580) == true)
 .ite y581 (
 let y582 := y579.2.1
 .need (pre119 y582) <|
 let y583 := ((fn119 y582) == true)
 .ite y583 (
 .need (((0 : Nat) + 2 : Nat) ≤ 2) <|
 .need (((0 : Nat) + 2 : Nat) ≤ 2) <|
 let y584 : (Int × Unit) := (0, ())
 let y585 : ((List Int) × (Int × Unit)) := (y574, y584)
 let y586 : (List Int) := [15, 190]
 let y587 : (Int × (Int × Int)) := ((-1), (2, 0))
 .ret (.inr (y585, (((), ((), (y586, y587))), true)))) (
 let y588 : (List Int) := [15, 190]
 .ret (.inl (.h7 y574 y588)))) (
 let y589 : (List Int) := [15, 190]
 .ret (.inl (.h7 y574 y589)))) (
 let y590 : (List Int) := [15, 190]
 .ret (.inl (.h7 y574 y590)))) (
 .ite (ieq x.1 35) (
 .need ((0 : Nat) < 2) <|
 .need ((1 : Nat) < 2) <|
 .need ((0 : Nat) < 2) <|
 .need ((1 : Nat) < 2) <|
 .need ((0 : Nat) < 1) <|
 .need ((0 : Int) ≤ 0) <|
 .need (0 < (1 : Int)) <|
 .need ((0 : Int) ≤ 0) <|
 .need (0 < (2 : Int)) <|
 .need (((0 : Nat) + 1 : Nat) ≤ 1) <|
 let y591 := x.2.2
 let y592 := y591.1
 let y593 : ((List Int) × Int) := ([16], y592)
 .need (pre99 y593) <|
 let y594 := ((fn99 y593) == true)
 .ite y594 (
 let y595 := y591.2
 let y596 := y595.1
 .need (pre126 y596) <|
 let y597 := ((fn126 y596) == true)
 .ite y597 (
 let y598 := y595.2.1
 .need (pre127 y598) <|
 let y599 := ((fn127 y598) == true)
 .ite y599 (
 .need (((0 : Nat) + 1 : Nat) ≤ 1) <|
 .need (((0 : Nat) + 2 : Nat) ≤ 2) <|
 let y600 : (List Int) := [15, 111]
 let y601 : (Int × (Int × Int)) := ((-1), (2, 0))
 .ret (.inr (([16], (243, ())), (((), ((), (y600, y601))), true)))) (
 let y602 : (List Int) := [15, 111]
 let y603 : (List Int) := [15, 127]
 .ret (.inl (.h9 [16] y602 y603)))) (
 let y604 : (List Int) := [15, 111]
 let y605 : (List Int) := [15, 127]
 .ret (.inl (.h9 [16] y604 y605)))) (
 let y606 : (List Int) := [15, 111]
 let y607 : (List Int) := [15, 127]
 .ret (.inl (.h9 [16] y606 y607)))) (
 .ite (ieq x.1 36) (
 .need ((0 : Nat) < 2) <|
 .need ((1 : Nat) < 2) <|
 .need ((0 : Nat) < 1) <|
 .need ((0 : Int) ≤ 0) <|
 .need (0 < (1 : Int)) <|
 .need ((0 : Int) ≤ 0) <|
 .need (0 < (1 : Int)) <|
 .need (((0 : Nat) + 1 : Nat) ≤ 1) <|
 let y608 := x.2.2
 let y609 := y608.1
 let y610 : ((List Int) × Int) := ([16], y609)
 .need (pre99 y610) <|
 let y611 := ((fn99 y610) == true)
 .ite y611 (
 let y612 := y608.2
 let y613 := y612.1
 .need (pre126 y613) <|
 let y614 := ((fn126 y613) == true)
 .ite y614 (
 let y615 := y612.2.1
 .need (pre127 y615) <|
 let y616 := ((fn127 y615) == true)
 .ite y616 (
 .need (((0 : Nat) + 1 : Nat) ≤ 1) <|
 .need (((0 : Nat) + 2 : Nat) ≤ 2) <|
 let y617 : ((List Int) × (Int × Unit)) := ([16], (102, ()))
 let y618 : (List Int) := [15, 239]
 let y619 : (Int × (Int × Int)) := ((-1), (2, 0))
 .ret (.inr (y617, (((), ((), (y618, y619))), true)))) (
 let y620 : (List Int) := [15, 239]
 .ret (.inl (.h10 [16] y620)))) (
 let y621 : (List Int) := [15, 239]
 .ret (.inl (.h10 [16] y621)))) (
 let y622 : (List Int) := [15, 239]
 .ret (.inl (.h10 [16] y622)))) (
 .ite (ieq x.1 37) (
 .need ((0 : Nat) < 3) <|
 .need ((1 : Nat) < 3) <|
 .need ((2 : Nat) < 3) <|
 .need ((0 : Nat) < 1) <|
 .need ((0 : Int) ≤ 0) <|
 .need (0 < (1 : Int)) <|
 .need ((0 : Int) ≤ 0) <|
 .need (0 < (1 : Int)) <|
 .need (((0 : Nat) + 1 : Nat) ≤ 1) <|
 let y623 := x.2.2
 let y624 := y623.1
 let y625 : ((List Int) × Int) := ([16], y624)
 .need (pre99 y625) <|
 let y626 := ((fn99 y625) == true)
 .ite y626 (
 let y627 := y623.2
 let y628 := y627.1
 .need (pre126 y628) <|
 let y629 := ((fn126 y628) == true)
 .ite y629 (
 let y630 := y627.2.1
 .need (pre127 y630) <|
 let y631 := ((fn127 y630) == true)
 .ite y631 (
 .need (((0 : Nat) + 1 : Nat) ≤ 1) <|
 .need (((0 : Nat) + 3 : Nat) ≤ 3) <|
 let y632 : ((List Int) × (Int × Unit)) := ([16], (102, ()))
 let y633 : (List Int) := [15, 56, 220]
 let y634 : (Int × (Int × Int)) := ((-1), (2, 0))
 .ret (.inr (y632, (((), ((), (y633, y634))), true)))) (
 let y635 : (List Int) := [15, 56, 220]
 .ret (.inl (.h11 [16] 0 y635)))) (
 let y636 : (List Int) := [15, 56, 220]
 .ret (.inl (.h11 [16] 0 y636)))) (
 let y637 : (List Int) := [15, 56, 220]
 .ret (.inl (.h11 [16] 0 y637)))) (
 .ite (ieq x.1 38) (
 .need ((0 : Nat) < 3) <|
 .need ((1 : Nat) < 3) <|
 .need ((2 : Nat) < 3) <|
 .need ((0 : Nat) < 1) <|
 .need ((0 : Int) ≤ 0) <|
 .need (0 < (1 : Int)) <|
 .need ((0 : Int) ≤ 0) <|
 .need (0 < (1 : Int)) <|
 .need (((0 : Nat) + 1 : Nat) ≤ 1) <|
 let y638 := x.2.2
 let y639 := y638.1
 let y640 : ((List Int) × Int) := ([16], y639)
 .need (pre99 y640) <|
 let y641 := ((fn99 y640) == true)
 .ite y641 (
 let y642 := y638.2
 let y643 := y642.1
 .need (pre126 y643) <|
 let y644 := ((fn126 y643) == true)
 .ite y644 (
 let y645 := y642.2.1
 .need (pre127 y645) <|
 let y646 := ((fn127 y645) == true)
 .ite y646 (
 .need (((0 : Nat) + 1 : Nat) ≤ 1) <|
 .need (((0 : Nat) + 3 : Nat) ≤ 3) <|
 let y647 : ((List Int) × (Int × Unit)) := ([16], (102, ()))
 let y648 : (List Int) := [15, 56, 221]
 let y649 : (Int × (Int × Int)) := ((-1), (2, 0))
 .ret (.inr (y647, (((), ((), (y648, y649))), true)))) (
 let y650 : (List Int) := [15, 56, 221]
 .ret (.inl (.h11 [16] 0 y650)))) (
 let y651 : (List Int) := [15, 56, 221]
 .ret (.inl (.h11 [16] 0 y651)))) (
 let y652 : (List Int) := [15, 56, 221]
 .ret (.inl (.h11 [16] 0 y652)))) (
 .ite (ieq x.1 39) (
 .need ((0 : Nat) < 3) <|
 .need ((1 : Nat) < 3) <|
 .need ((2 : Nat) < 3) <|
 .need ((0 : Nat) < 1) <|
 .need ((0 : Int) ≤ 0) <|
 .need (0 < (1 : Int)) <|
 .need ((0 : Int) ≤ 0) <|
 .need (0 < (1 : Int)) <|
 .need (((0 : Nat) + 1 : Nat) ≤ 1) <|
 let y653 := x.2.2
 let y654 := y653.1
 let y655 : ((List Int) × Int) := ([16], y654)
 .need (pre99 y655) <|
 let y656 := ((fn99 y655) == true)
 .ite y656 (
 let y657 := y653.2
 let y658 := y657.1
 .need (pre126 y658) <|
 let y659 := ((fn126 y658) == true)
 .ite y659 (
 let y660 := y657.2.1
 .need (pre127 y660) <|
 let y661 := ((fn127 y660) == true)
 .ite y661 (
 .need (((0 : Nat) + 1 : Nat) ≤ 1) <|
 .need (((0 : Nat) + 3 : Nat) ≤ 3) <|
 let y662 : ((List Int) × (Int × Unit)) := ([16], (102, ()))
 let y663 : (List Int) := [15, 58, 68]
 .ret (.inr (y662, (((), ((), (y663, ((-1), (2, 1))))), true)))) (
 let y664 : (List Int) := [15, 58, 68]
 .ret (.inl (.h11 [16] 1 y664)))) (
 let y665 : (List Int) := [15, 58, 68]
 .ret (.inl (.h11 [16] 1 y665)))) (
 let y666 : (List Int) := [15, 58, 68]
 .ret (.inl (.h11 [16] 1 y666)))) (
 let y667 := (ieq x.1 26)
 .ite (y667 == false) (
 let y668 := (ieq x.1 28)
 .ite (y668 == false) (
 let y669 := (ieq x.1 29)
 .ite (y669 == false) (
 let y670 := (ieq x.1 27)
 .ite (y670 == false) (
 let y671 := (ieq x.1 34)
 .ite (y671 == false) (
 let y672 := (ieq x.1 24)
 .ite (y672 == false) (
 .ite (ieq x.1 25) (
 .ite y667 (
 .need ((0 : Nat) < 1) <|
 .need ((0 : Nat) < 2) <|
 .need ((1 : Nat) < 2) <|
 .need ((0 : Int) ≤ 0) <|
 .need (0 < (1 : Int)) <|
 .need ((0 : Int) ≤ 0) <|
 .need (0 < (1 : Int)) <|
 .need (((0 : Nat) + 2 : Nat) ≤ 2) <|
 let y673 : (List Int) := [8, 8]
 let y674 := x.2.2
 let y675 := y674.1
 let y676 : ((List Int) × Int) := (y673, y675)
 .need (pre99 y676) <|
 let y677 := ((fn99 y676) == true)
 .ite y677 (
 let y678 := y674.2
 let y679 := y678.1
 .need (pre144 y679) <|
 let y680 := ((fn144 y679) == true)
 .ite y680 (
 let y681 := y678.2.1
 .need (pre123 y681) <|
 let y682 := ((fn123 y681) == true)
 .ite y682 (
 .need (((0 : Nat) + 2 : Nat) ≤ 2) <|
 .need (((0 : Nat) + 1 : Nat) ≤ 1) <|
 let y683 : (Int × Unit) := (0, ())
 let y684 : ((List Int) × (Int × Unit)) := (y673, y683)
 let y685 : (Int × (Int × Int)) := (0, (0, 4))
 let y686 : (((List Int) × (Int × Unit)) × ((Unit × (Unit × ((List Int) × (Int × (Int × Int))))) × Bool)) := (y684, (((), ((), ([232], y685))), true))
 .ret (.inr y686)) (
 .ret (.inl (.h12 y673 [232])))) (
 .ret (.inl (.h12 y673 [232])))) (
 .ret (.inl (.h12 y673 [232])))) (
 .ite y668 (
 .need ((0 : Nat) < 1) <|
 .need ((0 : Nat) < 1) <|
 .need ((0 : Nat) < 2) <|
 .need ((1 : Nat) < 2) <|
 .need ((0 : Int) ≤ 0) <|
 .need (0 < (1 : Int)) <|
 .need ((0 : Int) ≤ 0) <|
 .need (0 < (2 : Int)) <|
 .need (((0 : Nat) + 2 : Nat) ≤ 2) <|
 let y687 : (List Int) := [8, 8]
 let y688 := x.2.2
 let y689 := y688.1
 let y690 : ((List Int) × Int) := (y687, y689)
 .need (pre99 y690) <|
 let y691 := ((fn99 y690) == true)
 .ite y691 (
 let y692 := y688.2
 let y693 := y692.1
 .need (pre144 y693) <|
 let y694 := ((fn144 y693) == true)
 .ite y694 (
 let y695 := y692.2.1
 .need (pre123 y695) <|
 let y696 := ((fn123 y695) == true)
 .ite y696 (
 .need (((0 : Nat) + 2 : Nat) ≤ 2) <|
 .need (((0 : Nat) + 1 : Nat) ≤ 1) <|
 let y697 : (Int × Unit) := (0, ())
 let y698 : ((List Int) × (Int × Unit)) := (y687, y697)
 let y699 : (Int × (Int × Int)) := (0, (0, 4))
 let y700 : (((List Int) × (Int × Unit)) × ((Unit × (Unit × ((List Int) × (Int × (Int × Int))))) × Bool)) := (y698, (((), ((), ([233], y699))), true))
 .ret (.inr y700)) (
 .ret (.inl (.h13 y687 [233] [255])))) (
 .ret (.inl (.h13 y687 [233] [255])))) (
 .ret (.inl (.h13 y687 [233] [255])))) (
 .ite y669 (
 .need ((0 : Nat) < 2) <|
 .need ((1 : Nat) < 2) <|
 .need ((0 : Nat) < 2) <|
 .need ((1 : Nat) < 2) <|
 .need ((0 : Int) ≤ 0) <|
 .need (0 < (1 : Int)) <|
 .need ((0 : Int) ≤ 0) <|
 .need (0 < (1 : Int)) <|
 .need (((0 : Nat) + 2 : Nat) ≤ 2) <|
 let y701 : (List Int) := [8, 8]
 let y702 := x.2.2
 let y703 := y702.1
 let y704 : ((List Int) × Int) := (y701, y703)
 .need (pre99 y704) <|
 let y705 := ((fn99 y704) == true)
 .ite y705 (
 let y706 := y702.2
 let y707 := y706.1
 .need (pre144 y707) <|
 let y708 := ((fn144 y707) == true)
 .ite y708 (
 let y709 := y706.2.1
 .need (pre123 y709) <|
 let y710 := ((fn123 y709) == true)
 .ite y710 (
 .need (((0 : Nat) + 2 : Nat) ≤ 2) <|
 .need (((0 : Nat) + 2 : Nat) ≤ 2) <|
 let y711 : (Int × Unit) := (0, ())
 let y712 : ((List Int) × (Int × Unit)) := (y701, y711)
 let y713 : Int := (iand .u8 x.2.1 15)
 let y714 : (List Int) := [15, (iadd .u8 128 y713)]
 let y715 : (Int × (Int × Int)) := (0, (0, 4))
 let y716 : (((List Int) × (Int × Unit)) × ((Unit × (Unit × ((List Int) × (Int × (Int × Int))))) × Bool)) := (y712, (((), ((), (y714, y715))), true))
 .ret (.inr y716)) (
 let y717 : Int := (iand .u8 x.2.1 15)
 let y718 : (List Int) := [15, (iadd .u8 128 y717)]
 .ret (.inl (.h14 y701 y718)))) (
 let y719 : Int := (iand .u8 x.2.1 15)
 let y720 : (List Int) := [15, (iadd .u8 128 y719)]
 .ret (.inl (.h14 y701 y720)))) (
 let y721 : Int := (iand .u8 x.2.1 15)
 let y722 : (List Int) := [15, (iadd .u8 128 y721)]
 .ret (.inl (.h14 y701 y722)))) (
 .ite y670 (
 .need ((0 : Nat) < 1) <|
 .need ((0 : Nat) < 2) <|
 .need ((1 : Nat) < 2) <|
 .need ((0 : Int) ≤ 0) <|
 .need (0 < (1 : Int)) <|
 .need ((0 : Int) ≤ 0) <|
 .need (0 < (1 : Int)) <|
 .need (((0 : Nat) + 2 : Nat) ≤ 2) <|
 let y723 : (List Int) := [8, 8]
 let y724 := x.2.2
 let y725 := y724.1
 let y726 : ((List Int) × Int) := (y723, y725)
 .need (pre99 y726) <|
 let y727 := ((fn99 y726) == true)
 .ite y727 (
 let y728 := y724.2
 let y729 := y728.1
 .need (pre144 y729) <|
 let y730 := ((fn144 y729) == true)
 .ite y730 (
 let y731 := y728.2.1
 .need (pre144 y731) <|
 let y732 := ((fn144 y731) == true)
 .ite y732 (
 .need (((0 : Nat) + 2 : Nat) ≤ 2) <|
 .need (((0 : Nat) + 1 : Nat) ≤ 1) <|
 let y733 : (Int × Unit) := (0, ())
 let y734 : ((List Int) × (Int × Unit)) := (y723, y733)
 let y735 : (Int × (Int × Int)) := (0, (0, 0))
 let y736 : (((List Int) × (Int × Unit)) × ((Unit × (Unit × ((List Int) × (Int × (Int × Int))))) × Bool)) := (y734, (((), ((), ([195], y735))), true))
 .ret (.inr y736)) (
 .ret (.inl (.h15 y723 [195])))) (
 .ret (.inl (.h15 y723 [195])))) (
 .ret (.inl (.h15 y723 [195])))) (
 .ite y671 (
 .need ((0 : Nat) < 1) <|
 .need ((0 : Nat) < 2) <|
 .need ((1 : Nat) < 2) <|
 .need ((0 : Int) ≤ 0) <|
 .need (0 < (1 : Int)) <|
 .need ((0 : Int) ≤ 0) <|
 .need (0 < (1 : Int)) <|
 .need (((0 : Nat) + 2 : Nat) ≤ 2) <|
 let y737 : (List Int) := [8, 8]
 let y738 := x.2.2
 let y739 := y738.1
 let y740 : ((List Int) × Int) := (y737, y739)
 .need (pre99 y740) <|
 let y741 := ((fn99 y740) == true)
 .ite y741 (
 let y742 := y738.2
 let y743 := y742.1
 .need (pre144 y743) <|
 let y744 := ((fn144 y743) == true)
 .ite y744 (
 let y745 := y742.2.1
 .need (pre144 y745) <|
 let y746 := ((fn144 y745) == true)
 .ite y746 (
 .need (((0 : Nat) + 2 : Nat) ≤ 2) <|
 .need (((0 : Nat) + 1 : Nat) ≤ 1) <|
 let y747 : (Int × Unit) := (0, ())
 let y748 : ((List Int) × (Int × Unit)) := (y737, y747)
 let y749 : (Int × (Int × Int)) := (0, (0, 0))
 let y750 : (((List Int) × (Int × Unit)) × ((Unit × (Unit × ((List Int) × (Int × (Int × Int))))) × Bool)) := (y748, (((), ((), ([144], y749))), true))
 .ret (.inr y750)) (
 .ret (.inl (.h15 y737 [144])))) (
 .ret (.inl (.h15 y737 [144])))) (
 .ret (.inl (.h15 y737 [144])))) (
 .ite y672 (
 .need ((0 : Nat) < 1) <|
 .need ((0 : Nat) < 2) <|
 .need ((1 : Nat) < 2) <|
 .need ((0 : Int) ≤ 0) <|
 .need (0 < (1 : Int)) <|
 .need ((0 : Int) ≤ 0) <|
 .need (0 < (1 : Int)) <|
 .need (((0 : Nat) + 2 : Nat) ≤ 2) <|
 let y751 : (List Int) := [8, 8]
 let y752 := x.2.2
 let y753 := y752.1
 let y754 : ((List Int) × Int) := (y751, y753)
 .need (pre99 y754) <|
 let y755 := ((fn99 y754) == true)
 .ite y755 (
 let y756 := y752.2
 let y757 := y756.1
 .need (pre120 y757) <|
 let y758 := ((fn120 y757) == true)
 .ite y758 (
 let y759 := y756.2.1
 .need (pre144 y759) <|
 let y760 := ((fn144 y759) == true)
 .ite y760 (
 .need (((0 : Nat) + 2 : Nat) ≤ 2) <|
 .need (((0 : Nat) + 1 : Nat) ≤ 1) <|
 let y761 : (Int × Unit) := (0, ())
 let y762 : ((List Int) × (Int × Unit)) := (y751, y761)
 let y763 : (Int × (Int × Int)) := (0, (3, 0))
 let y764 : (((List Int) × (Int × Unit)) × ((Unit × (Unit × ((List Int) × (Int × (Int × Int))))) × Bool)) := (y762, (((), ((), ([80], y763))), true))
 .ret (.inr y764)) (
 .ret (.inl (.h16 y751 [80])))) (
 .ret (.inl (.h16 y751 [80])))) (
 .ret (.inl (.h16 y751 [80])))) (
 .need ((0 : Nat) < 1) <|
 .need ((0 : Nat) < 2) <|
 .need ((1 : Nat) < 2) <|
 .need ((0 : Int) ≤ 0) <|
 .need (0 < (1 : Int)) <|
 .need ((0 : Int) ≤ 0) <|
 .need (0 < (1 : Int)) <|
 .need (((0 : Nat) + 2 : Nat) ≤ 2) <|
 let y765 : (List Int) := [8, 8]
 let y766 := x.2.2
 let y767 := y766.1
 let y768 : ((List Int) × Int) := (y765, y767)
 .need (pre99 y768) <|
 let y769 := ((fn99 y768) == true)
 .ite y769 (
 let y770 := y766.2
 let y771 := y770.1
 .need (pre120 y771) <|
 let y772 := ((fn120 y771) == true)
 .ite y772 (
 let y773 := y770.2.1
 .need (pre144 y773) <|
 let y774 := ((fn144 y773) == true)
 .ite y774 (
 .need (((0 : Nat) + 2 : Nat) ≤ 2) <|
 .need (((0 : Nat) + 1 : Nat) ≤ 1) <|
 let y775 : (Int × Unit) := (0, ())
 let y776 : ((List Int) × (Int × Unit)) := (y765, y775)
 let y777 : (Int × (Int × Int)) := (0, (3, 0))
 let y778 : (((List Int) × (Int × Unit)) × ((Unit × (Unit × ((List Int) × (Int × (Int × Int))))) × Bool)) := (y776, (((), ((), ([88], y777))), true))
 .ret (.inr y778)) (
 .ret (.inl (.h16 y765 [88])))) (
 .ret (.inl (.h16 y765 [88])))) (
 .ret (.inl (.h16 y765 [88])))))))))) (
 .ret (.inl (.h17)))) (
 .ite y667 (
 .need ((0 : Nat) < 1) <|
 .need ((0 : Nat) < 2) <|
 .need ((1 : Nat) < 2) <|
 .need ((0 : Int) ≤ 0) <|
 .need (0 < (1 : Int)) <|
 .need ((0 : Int) ≤ 0) <|
 .need (0 < (1 : Int)) <|
 .need (((0 : Nat) + 2 : Nat) ≤ 2) <|
 let y779 : (List Int) := [8, 8]
 let y780 := x.2.2
 let y781 := y780.1
 let y782 : ((List Int) × Int) := (y779, y781)
 .need (pre99 y782) <|
 let y783 := ((fn99 y782) == true)
 .ite y783 (
 let y784 := y780.2
 let y785 := y784.1
 .need (pre144 y785) <|
 let y786 := ((fn144 y785) == true)
 .ite y786 (
 let y787 := y784.2.1
 .need (pre123 y787) <|
 let y788 := ((fn123 y787) == true)
 .ite y788 (
 .need (((0 : Nat) + 2 : Nat) ≤ 2) <|
 .need (((0 : Nat) + 1 : Nat) ≤ 1) <|
 let y789 : (Int × Unit) := (0, ())
 let y790 : ((List Int) × (Int × Unit)) := (y779, y789)
 let y791 : (Int × (Int × Int)) := (0, (0, 4))
 let y792 : (((List Int) × (Int × Unit)) × ((Unit × (Unit × ((List Int) × (Int × (Int × Int))))) × Bool)) := (y790, (((), ((), ([232], y791))), true))
 .ret (.inr y792)) (
 .ret (.inl (.h12 y779 [232])))) (
 .ret (.inl (.h12 y779 [232])))) (
 .ret (.inl (.h12 y779 [232])))) (
 .ite y668 (
 .need ((0 : Nat) < 1) <|
 .need ((0 : Nat) < 1) <|
 .need ((0 : Nat) < 2) <|
 .need ((1 : Nat) < 2) <|
 .need ((0 : Int) ≤ 0) <|
 .need (0 < (1 : Int)) <|
 .need ((0 : Int) ≤ 0) <|
 .need (0 < (2 : Int)) <|
 .need (((0 : Nat) + 2 : Nat) ≤ 2) <|
 let y793 : (List Int) := [8, 8]
 let y794 := x.2.2
 let y795 := y794.1
 let y796 : ((List Int) × Int) := (y793, y795)
 .need (pre99 y796) <|
 let y797 := ((fn99 y796) == true)
 .ite y797 (
 let y798 := y794.2
 let y799 := y798.1
 .need (pre144 y799) <|
 let y800 := ((fn144 y799) == true)
 .ite y800 (
 let y801 := y798.2.1
 .need (pre123 y801) <|
 let y802 := ((fn123 y801) == true)
 .ite y802 (
 .need (((0 : Nat) + 2 : Nat) ≤ 2) <|
 .need (((0 : Nat) + 1 : Nat) ≤ 1) <|
 let y803 : (Int × Unit) := (0, ())
 let y804 : ((List Int) × (Int × Unit)) := (y793, y803)
 let y805 : (Int × (Int × Int)) := (0, (0, 4))
 let y806 : (((List Int) × (Int × Unit)) × ((Unit × (Unit × ((List Int) × (Int × (Int × Int))))) × Bool)) := (y804, (((), ((), ([233], y805))), true))
 .ret (.inr y806)) (
 .ret (.inl (.h13 y793 [233] [255])))) (
 .ret (.inl (.h13 y793 [233] [255])))) (
 .ret (.inl (.h13 y793 [233] [255])))) (
 .ite y669 (
 .need ((0 : Nat) < 2) <|
 .need ((1 : Nat) < 2) <|
 .need ((0 : Nat) < 2) <|
 .need ((1 : Nat) < 2) <|
 .need ((0 : Int) ≤ 0) <|
 .need (0 < (1 : Int)) <|
 .need ((0 : Int) ≤ 0) <|
 .need (0 < (1 : Int)) <|
 .need (((0 : Nat) + 2 : Nat) ≤ 2) <|
 let y807 : (List Int) := [8, 8]
 let y808 := x.2.2
 let y809 := y808.1
 let y810 : ((List Int) × Int) := (y807, y809)
 .need (pre99 y810) <|
 let y811 := ((fn99 y810) == true)
 .ite y811 (
 let y812 := y808.2
 let y813 := y812.1
 .need (pre144 y813) <|
 let y814 := ((fn144 y813) == true)
 .ite y814 (
 let y815 := y812.2.1
 .need (pre123 y815) <|
 let y816 := ((fn123 y815) == true)
 .ite y816 (
 .need (((0 : Nat) + 2 : Nat) ≤ 2) <|
 .need (((0 : Nat) + 2 : Nat) ≤ 2) <|
 let y817 : (Int × Unit) := (0, ())
 let y818 : ((List Int) × (Int × Unit)) := (y807, y817)
 let y819 : Int := (iand .u8 x.2.1 15)
 let y820 : (List Int) := [15, (iadd .u8 128 y819)]
 let y821 : (Int × (Int × Int)) := (0, (0, 4))
 let y822 : (((List Int) × (Int × Unit)) × ((Unit × (Unit × ((List Int) × (Int × (Int × Int))))) × Bool)) := (y818, (((), ((), (y820, y821))), true))
 .ret (.inr y822)) (
 let y823 : Int := (iand .u8 x.2.1 15)
 let y824 : (List Int) := [15, (iadd .u8 128 y823)]
 .ret (.inl (.h14 y807 y824)))) (
 let y825 : Int := (iand .u8 x.2.1 15)
 let y826 : (List Int) := [15, (iadd .u8 128 y825)]
 .ret (.inl (.h14 y807 y826)))) (
 let y827 : Int := (iand .u8 x.2.1 15)
 let y828 : (List Int) := [15, (iadd .u8 128 y827)]
 .ret (.inl (.h14 y807 y828)))) (
 .ite y670 (
 .need ((0 : Nat) < 1) <|
 .need ((0 : Nat) < 2) <|
 .need ((1 : Nat) < 2) <|
 .need ((0 : Int) ≤ 0) <|
 .need (0 < (1 : Int)) <|
 .need ((0 : Int) ≤ 0) <|
 .need (0 < (1 : Int)) <|
 .need (((0 : Nat) + 2 : Nat) ≤ 2) <|
 let y829 : (List Int) := [8, 8]
 let y830 := x.2.2
 let y831 := y830.1
 let y832 : ((List Int) × Int) := (y829, y831)
 .need (pre99 y832) <|
 let y833 := ((fn99 y832) == true)
 .ite y833 (
 let y834 := y830.2
 let y835 := y834.1
 .need (pre144 y835) <|
 let y836 := ((fn144 y835) == true)
 .ite y836 (
 let y837 := y834.2.1
 .need (pre144 y837) <|
 let y838 := ((fn144 y837) == true)
 .ite y838 (
 .need (((0 : Nat) + 2 : Nat) ≤ 2) <|
 .need (((0 : Nat) + 1 : Nat) ≤ 1) <|
 let y839 : (Int × Unit) := (0, ())
 let y840 : ((List Int) × (Int × Unit)) := (y829, y839)
 let y841 : (Int × (Int × Int)) := (0, (0, 0))
 let y842 : (((List Int) × (Int × Unit)) × ((Unit × (Unit × ((List Int) × (Int × (Int × Int))))) × Bool)) := (y840, (((), ((), ([195], y841))), true))
 .ret (.inr y842)) (
 .ret (.inl (.h15 y829 [195])))) (
 .ret (.inl (.h15 y829 [195])))) (
 .ret (.inl (.h15 y829 [195])))) (
 .ite y671 (
 .need ((0 : Nat) < 1) <|
 .need ((0 : Nat) < 2) <|
 .need ((1 : Nat) < 2) <|
 .need ((0 : Int) ≤ 0) <|
 .need (0 < (1 : Int)) <|
 .need ((0 : Int) ≤ 0) <|
 .need (0 < (1 : Int)) <|
 .need (((0 : Nat) + 2 : Nat) ≤ 2) <|
 let y843 : (List Int) := [8, 8]
 let y844 := x.2.2
 let y845 := y844.1
 let y846 : ((List Int) × Int) := (y843, y845)
 .need (pre99 y846) <|
 let y847 := ((fn99 y846) == true)
 .ite y847 (
 let y848 := y844.2
 let y849 := y848.1
 .need (pre144 y849) <|
 let y850 := ((fn144 y849) == true)
 .ite y850 (
 let y851 := y848.2.1
 .need (pre144 y851) <|
 let y852 := ((fn144 y851) == true)
 .ite y852 (
 .need (((0 : Nat) + 2 : Nat) ≤ 2) <|
 .need (((0 : Nat) + 1 : Nat) ≤ 1) <|
 let y853 : (Int × Unit) := (0, ())
 let y854 : ((List Int) × (Int × Unit)) := (y843, y853)
 let y855 : (Int × (Int × Int)) := (0, (0, 0))
 let y856 : (((List Int) × (Int × Unit)) × ((Unit × (Unit × ((List Int) × (Int × (Int × Int))))) × Bool)) := (y854, (((), ((), ([144], y855))), true))
 .ret (.inr y856)) (
 .ret (.inl (.h15 y843 [144])))) (
 .ret (.inl (.h15 y843 [144])))) (
 .ret (.inl (.h15 y843 [144])))) (
 .ite y672 (
 .need ((0 : Nat) < 1) <|
 .need ((0 : Nat) < 2) <|
 .need ((1 : Nat) < 2) <|
 .need ((0 : Int) ≤ 0) <|
 .need (0 < (1 : Int)) <|
 .need ((0 : Int) ≤ 0) <|
 .need (0 < (1 : Int)) <|
 .need (((0 : Nat) + 2 : Nat) ≤ 2) <|
 let y857 : (List Int) := [8, 8]
 let y858 := x.2.2
 let y859 := y858.1
 let y860 : ((List Int) × Int) := (y857, y859)
 .need (pre99 y860) <|
 let y861 := ((fn99 y860) == true)
 .ite y861 (
 let y862 := y858.2
 let y863 := y862.1
 .need (pre120 y863) <|
 let y864 := ((fn120 y863) == true)
 .ite y864 (
 let y865 := y862.2.1
 .need (pre144 y865) <|
 let y866 := ((fn144 y865) == true)
 .ite y866 (
 .need (((0 : Nat) + 2 : Nat) ≤ 2) <|
 .need (((0 : Nat) + 1 : Nat) ≤ 1) <|
 let y867 : (Int × Unit) := (0, ())
 let y868 : ((List Int) × (Int × Unit)) := (y857, y867)
 let y869 : (Int × (Int × Int)) := (0, (3, 0))
 let y870 : (((List Int) × (Int × Unit)) × ((Unit × (Unit × ((List Int) × (Int × (Int × Int))))) × Bool)) := (y868, (((), ((), ([80], y869))), true))
 .ret (.inr y870)) (
 .ret (.inl (.h16 y857 [80])))) (
 .ret (.inl (.h16 y857 [80])))) (
 .ret (.inl (.h16 y857 [80])))) (
 .need ((0 : Nat) < 1) <|
 .need ((0 : Nat) < 2) <|
 .need ((1 : Nat) < 2) <|
 .need ((0 : Int) ≤ 0) <|
 .need (0 < (1 : Int)) <|
 .need ((0 : Int) ≤ 0) <|
 .need (0 < (1 : Int)) <|
 .need (((0 : Nat) + 2 : Nat) ≤ 2) <|
 let y871 : (List Int) := [8, 8]
 let y872 := x.2.2
 let y873 := y872.1
 let y874 : ((List Int) × Int) := (y871, y873)
 .need (pre99 y874) <|
 let y875 := ((fn99 y874) == true)
 .ite y875 (
 let y876 := y872.2
 let y877 := y876.1
 .need (pre120 y877) <|
 let y878 := ((fn120 y877) == true)
 .ite y878 (
 let y879 := y876.2.1
 .need (pre144 y879) <|
 let y880 := ((fn144 y879) == true)
 .ite y880 (
 .need (((0 : Nat) + 2 : Nat) ≤ 2) <|
 .need (((0 : Nat) + 1 : Nat) ≤ 1) <|
 let y881 : (Int × Unit) := (0, ())
 let y882 : ((List Int) × (Int × Unit)) := (y871, y881)
 let y883 : (Int × (Int × Int)) := (0, (3, 0))
 let y884 : (((List Int) × (Int × Unit)) × ((Unit × (Unit × ((List Int) × (Int × (Int × Int))))) × Bool)) := (y882, (((), ((), ([88], y883))), true))
 .ret (.inr y884)) (
 .ret (.inl (.h16 y871 [88])))) (
 .ret (.inl (.h16 y871 [88])))) (
 .ret (.inl (.h16 y871 [88]))))))))))) (
 .ite y667 (
 .need ((0 : Nat) < 1) <|
 .need ((0 : Nat) < 2) <|
 .need ((1 : Nat) < 2) <|
 .need ((0 : Int) ≤ 0) <|
 .need (0 < (1 : Int)) <|
 .need ((0 : Int) ≤ 0) <|
 .need (0 < (1 : Int)) <|
 .need (((0 : Nat) + 2 : Nat) ≤ 2) <|
 let y885 : (List Int) := [8, 8]
 let y886 := x.2.2
 let y887 := y886.1
 let y888 : ((List Int) × Int) := (y885, y887)
 .need (pre99 y888) <|
 let y889 := ((fn99 y888) == true)
 .ite y889 (
 let y890 := y886.2
 let y891 := y890.1
 .need (pre144 y891) <|
 let y892 := ((fn144 y891) == true)
 .ite y892 (
 let y893 := y890.2.1
 .need (pre123 y893) <|
 let y894 := ((fn123 y893) == true)
 .ite y894 (
 .need (((0 : Nat) + 2 : Nat) ≤ 2) <|
 .need (((0 : Nat) + 1 : Nat) ≤ 1) <|
 let y895 : (Int × Unit) := (0, ())
 let y896 : ((List Int) × (Int × Unit)) := (y885, y895)
 let y897 : (Int × (Int × Int)) := (0, (0, 4))
 let y898 : (((List Int) × (Int × Unit)) × ((Unit × (Unit × ((List Int) × (Int × (Int × Int))))) × Bool)) := (y896, (((), ((), ([232], y897))), true))
 .ret (.inr y898)) (
 .ret (.inl (.h12 y885 [232])))) (
 .ret (.inl (.h12 y885 [232])))) (
 .ret (.inl (.h12 y885 [232])))) (
 .ite y668 (
 .need ((0 : Nat) < 1) <|
 .need ((0 : Nat) < 1) <|
 .need ((0 : Nat) < 2) <|
 .need ((1 : Nat) < 2) <|
 .need ((0 : Int) ≤ 0) <|
 .need (0 < (1 : Int)) <|
 .need ((0 : Int) ≤ 0) <|
 .need (0 < (2 : Int)) <|
 .need (((0 : Nat) + 2 : Nat) ≤ 2) <|
 let y899 : (List Int) := [8, 8]
 let y900 := x.2.2
 let y901 := y900.1
 let y902 : ((List Int) × Int) := (y899, y901)
 .need (pre99 y902) <|
 let y903 := ((fn99 y902) == true)
 .ite y903 (
 let y904 := y900.2
 let y905 := y904.1
 .need (pre144 y905) <|
 let y906 := ((fn144 y905) == true)
 .ite y906 (
 let y907 := y904.2.1
 .need (pre123 y907) <|
 let y908 := ((fn123 y907) == true)
 .ite y908 (
 .need (((0 : Nat) + 2 : Nat) ≤ 2) <|
 .need (((0 : Nat) + 1 : Nat) ≤ 1) <|
 let y909 : (Int × Unit) := (0, ())
 let y910 : ((List Int) × (Int × Unit)) := (y899, y909)
 let y911 : (Int × (Int × Int)) := (0, (0, 4))
 let y912 : (((List Int) × (Int × Unit)) × ((Unit × (Unit × ((List Int) × (Int × (Int × Int))))) × Bool)) := (y910, (((), ((), ([233], y911))), true))
 .ret (.inr y912)) (
 .ret (.inl (.h13 y899 [233] [255])))) (
 .ret (.inl (.h13 y899 [233] [255])))) (
 .ret (.inl (.h13 y899 [233] [255])))) (
 .ite y669 (
 .need ((0 : Nat) < 2) <|
 .need ((1 : Nat) < 2) <|
 .need ((0 : Nat) < 2) <|
 .need ((1 : Nat) < 2) <|
 .need ((0 : Int) ≤ 0) <|
 .need (0 < (1 : Int)) <|
 .need ((0 : Int) ≤ 0) <|
 .need (0 < (1 : Int)) <|
 .need (((0 : Nat) + 2 : Nat) ≤ 2) <|
 let y913 : (List Int) := [8, 8]
 let y914 := x.2.2
 let y915 := y914.1
 let y916 : ((List Int) × Int) := (y913, y915)
 .need (pre99 y916) <|
 let y917 := ((fn99 y916) == true)
 .ite y917 (
 let y918 := y914.2
 let y919 := y918.1
 .need (pre144 y919) <|
 let y920 := ((fn144 y919) == true)
 .ite y920 (
 let y921 := y918.2.1
 .need (pre123 y921) <|
 let y922 := ((fn123 y921) == true)
 .ite y922 (
 .need (((0 : Nat) + 2 : Nat) ≤ 2) <|
 .need (((0 : Nat) + 2 : Nat) ≤ 2) <|
 let y923 : (Int × Unit) := (0, ())
 let y924 : ((List Int) × (Int × Unit)) := (y913, y923)
 let y925 : Int := (iand .u8 x.2.1 15)
 let y926 : (List Int) := [15, (iadd .u8 128 y925)]
 let y927 : (Int × (Int × Int)) := (0, (0, 4))
 let y928 : (((List Int) × (Int × Unit)) × ((Unit × (Unit × ((List Int) × (Int × (Int × Int))))) × Bool)) := (y924, (((), ((), (y926, y927))), true))
 .ret (.inr y928)) (
 let y929 : Int := (iand .u8 x.2.1 15)
 let y930 : (List Int) := [15, (iadd .u8 128 y929)]
 .ret (.inl (.h14 y913 y930)))) (
 let y931 : Int := (iand .u8 x.2.1 15)
 let y932 : (List Int) := [15, (iadd .u8 128 y931)]
 .ret (.inl (.h14 y913 y932)))) (
 let y933 : Int := (iand .u8 x.2.1 15)
 let y934 : (List Int) := [15, (iadd .u8 128 y933)]
 .ret (.inl (.h14 y913 y934)))) (
 .ite y670 (
 .need ((0 : Nat) < 1) <|
 .need ((0 : Nat) < 2) <|
 .need ((1 : Nat) < 2) <|
 .need ((0 : Int) ≤ 0) <|
 .need (0 < (1 : Int)) <|
 .need ((0 : Int) ≤ 0) <|
 .need (0 < (1 : Int)) <|
 .need (((0 : Nat) + 2 : Nat) ≤ 2) <|
 let y935 : (List Int) := [8, 8]
 let y936 := x.2.2
 let y937 := y936.1
 let y938 : ((List Int) × Int) := (y935, y937)
 .need (pre99 y938) <|
 let y939 := ((fn99 y938) == true)
 .ite y939 (
 let y940 := y936.2
 let y941 := y940.1
 .need (pre144 y941) <|
 let y942 := ((fn144 y941) == true)
 .ite y942 (
 let y943 := y940.2.1
 .need (pre144 y943) <|
 let y944 := ((fn144 y943) == true)
 .ite y944 (
 .need (((0 : Nat) + 2 : Nat) ≤ 2) <|
 .need (((0 : Nat) + 1 : Nat) ≤ 1) <|
 let y945 : (Int × Unit) := (0, ())
 let y946 : ((List Int) × (Int × Unit)) := (y935, y945)
 let y947 : (Int × (Int × Int)) := (0, (0, 0))
 let y948 : (((List Int) × (Int × Unit)) × ((Unit × (Unit × ((List Int) × (Int × (Int × Int))))) × Bool)) := (y946, (((), ((), ([195], y947))), true))
 .ret (.inr y948)) (
 .ret (.inl (.h15 y935 [195])))) (
 .ret (.inl (.h15 y935 [195])))) (
 .ret (.inl (.h15 y935 [195])))) (
 .ite y671 (
 .need ((0 : Nat) < 1) <|
 .need ((0 : Nat) < 2) <|
 .need ((1 : Nat) < 2) <|
 .need ((0 : Int) ≤ 0) <|
 .need (0 < (1 : Int)) <|
 .need ((0 : Int) ≤ 0) <|
 .need (0 < (1 : Int)) <|
 .need (((0 : Nat) + 2 : Nat) ≤ 2) <|
 let y949 : (List Int) := [8, 8]
 let y950 := x.2.2
 let y951 := y950.1
 let y952 : ((List Int) × Int) := (y949, y951)
 .need (pre99 y952) <|
 let y953 := ((fn99 y952) == true)
 .ite y953 (
 let y954 := y950.2
 let y955 := y954.1
 .need (pre144 y955) <|
 let y956 := ((fn144 y955) == true)
 .ite y956 (
 let y957 := y954.2.1
 .need (pre144 y957) <|
 let y958 := ((fn144 y957) == true)
 .ite y958 (
 .need (((0 : Nat) + 2 : Nat) ≤ 2) <|
 .need (((0 : Nat) + 1 : Nat) ≤ 1) <|
 let y959 : (Int × Unit) := (0, ())
 let y960 : ((List Int) × (Int × Unit)) := (y949, y959)
 let y961 : (Int × (Int × Int)) := (0, (0, 0))
 let y962 : (((List Int) × (Int × Unit)) × ((Unit × (Unit × ((List Int) × (Int × (Int × Int))))) × Bool)) := (y960, (((), ((), ([144], y961))), true))
 .ret (.inr y962)) (
 .ret (.inl (.h15 y949 [144])))) (
 .ret (.inl (.h15 y949 [144])))) (
 .ret (.inl (.h15 y949 [144])))) (
 let y963 := (ieq x.1 24)
 .ite y963 (
 .need ((0 : Nat) < 1) <|
 .need ((0 : Nat) < 2) <|
 .need ((1 : Nat) < 2) <|
 .need ((0 : Int) ≤ 0) <|
 .need (0 < (1 : Int)) <|
 .need ((0 : Int) ≤ 0) <|
 .need (0 < (1 : Int)) <|
 .need (((0 : Nat) + 2 : Nat) ≤ 2) <|
 let y964 : (List Int) := [8, 8]
 let y965 := x.2.2
 let y966 := y965.1
 let y967 : ((List Int) × Int) := (y964, y966)
 .need (pre99 y967) <|
 let y968 := ((fn99 y967) == true)
 .ite y968 (
 let y969 := y965.2
 let y970 := y969.1
 .need (pre120 y970) <|
 let y971 := ((fn120 y970) == true)
 .ite y971 (
 let y972 := y969.2.1
 .need (pre144 y972) <|
 let y973 := ((fn144 y972) == true)
 .ite y973 (
 .need (((0 : Nat) + 2 : Nat) ≤ 2) <|
 .need (((0 : Nat) + 1 : Nat) ≤ 1) <|
 let y974 : (Int × Unit) := (0, ())
 let y975 : ((List Int) × (Int × Unit)) := (y964, y974)
 let y976 : (Int × (Int × Int)) := (0, (3, 0))
 let y977 : (((List Int) × (Int × Unit)) × ((Unit × (Unit × ((List Int) × (Int × (Int × Int))))) × Bool)) := (y975, (((), ((), ([80], y976))), true))
 .ret (.inr y977)) (
 .ret (.inl (.h16 y964 [80])))) (
 .ret (.inl (.h16 y964 [80])))) (
 .ret (.inl (.h16 y964 [80])))) (
 .need ((0 : Nat) < 1) <|
 .need ((0 : Nat) < 2) <|
 .need ((1 : Nat) < 2) <|
 .need ((0 : Int) ≤ 0) <|
 .need (0 < (1 : Int)) <|
 .need ((0 : Int) ≤ 0) <|
 .need (0 < (1 : Int)) <|
 .need (((0 : Nat) + 2 : Nat) ≤ 2) <|
 let y978 : (List Int) := [8, 8]
 let y979 := x.2.2
 let y980 := y979.1
 let y981 : ((List Int) × Int) := (y978, y980)
 .need (pre99 y981) <|
 let y982 := ((fn99 y981) == true)
 .ite y982 (
 let y983 := y979.2
 let y984 := y983.1
 .need (pre120 y984) <|
 let y985 := ((fn120 y984) == true)
 .ite y985 (
 let y986 := y983.2.1
 .need (pre144 y986) <|
 let y987 := ((fn144 y986) == true)
 .ite y987 (
 .need (((0 : Nat) + 2 : Nat) ≤ 2) <|
 .need (((0 : Nat) + 1 : Nat) ≤ 1) <|
 let y988 : (Int × Unit) := (0, ())
 let y989 : ((List Int) × (Int × Unit)) := (y978, y988)
 let y990 : (Int × (Int × Int)) := (0, (3, 0))
 let y991 : (((List Int) × (Int × Unit)) × ((Unit × (Unit × ((List Int) × (Int × (Int × Int))))) × Bool)) := (y989, (((), ((), ([88], y990))), true))
 .ret (.inr y991)) (
 .ret (.inl (.h16 y978 [88])))) (
 .ret (.inl (.h16 y978 [88])))) (
 .ret (.inl (.h16 y978 [88]))))))))))) (
 .ite y667 (
 .need ((0 : Nat) < 1) <|
 .need ((0 : Nat) < 2) <|
 .need ((1 : Nat) < 2) <|
 .need ((0 : Int) ≤ 0) <|
 .need (0 < (1 : Int)) <|
 .need ((0 : Int) ≤ 0) <|
 .need (0 < (1 : Int)) <|
 .need (((0 : Nat) + 2 : Nat) ≤ 2) <|
 let y992 : (List Int) := [8, 8]
 let y993 := x.2.2
 let y994 := y993.1
 let y995 : ((List Int) × Int) := (y992, y994)
 .need (pre99 y995) <|
 let y996 := ((fn99 y995) == true)
 .ite y996 (
 let y997 := y993.2
 let y998 := y997.1
 .need (pre144 y998) <|
 let y999 := ((fn144 y998) == true)
 .ite y999 (
 let y1000 := y997.2.1
 .need (pre123 y1000) <|
 let y1001 := ((fn123 y1000) == true)
 .ite y1001 (
 .need (((0 : Nat) + 2 : Nat) ≤ 2) <|
 .need (((0 : Nat) + 1 : Nat) ≤ 1) <|
 let y1002 : (Int × Unit) := (0, ())
 let y1003 : ((List Int) × (Int × Unit)) := (y992, y1002)
 let y1004 : (Int × (Int × Int)) := (0, (0, 4))
 let y1005 : (((List Int) × (Int × Unit)) × ((Unit × (Unit × ((List Int) × (Int × (Int × Int))))) × Bool)) := (y1003, (((), ((), ([232], y1004))), true))
 .ret (.inr y1005)) (
 .ret (.inl (.h12 y992 [232])))) (
 .ret (.inl (.h12 y992 [232])))) (
 .ret (.inl (.h12 y992 [232])))) (
 .ite y668 (
 .need ((0 : Nat) < 1) <|
 .need ((0 : Nat) < 1) <|
 .need ((0 : Nat) < 2) <|
 .need ((1 : Nat) < 2) <|
 .need ((0 : Int) ≤ 0) <|
 .need (0 < (1 : Int)) <|
 .need ((0 : Int) ≤ 0) <|
 .need (0 < (2 : Int)) <|
 .need (((0 : Nat) + 2 : Nat) ≤ 2) <|
 let y1006 : (List Int) := [8, 8]
 let y1007 := x.2.2
 let y1008 := y1007.1
 let y1009 : ((List Int) × Int) := (y1006, y1008)
 .need (pre99 y1009) <|
 let y1010 := ((fn99 y1009) == true)
 .ite y1010 (
 let y1011 := y1007.2
 let y1012 := y1011.1
 .need (pre144 y1012) <|
 let y1013 := ((fn144 y1012) == true)
 .ite y1013 (
 let y1014 := y1011.2.1
 .need (pre123 y1014) <|
 let y1015 := ((fn123 y1014) == true)
 .ite y1015 (
 .need (((0 : Nat) + 2 : Nat) ≤ 2) <|
 .need (((0 : Nat) + 1 : Nat) ≤ 1) <|
 let y1016 : (Int × Unit) := (0, ())
 let y1017 : ((List Int) × (Int × Unit)) := (y1006, y1016)
 let y1018 : (Int × (Int × Int)) := (0, (0, 4))
 let y1019 : (((List Int) × (Int × Unit)) × ((Unit × (Unit × ((List Int) × (Int × (Int × Int))))) × Bool)) := (y1017, (((), ((), ([233], y1018))), true))
 .ret (.inr y1019)) (
 .ret (.inl (.h13 y1006 [233] [255])))) (
 .ret (.inl (.h13 y1006 [233] [255])))) (
 .ret (.inl (.h13 y1006 [233] [255])))) (
 .ite y669 (
 .need ((0 : Nat) < 2) <|
 .need ((1 : Nat) < 2) <|
 .need ((0 : Nat) < 2) <|
 .need ((1 : Nat) < 2) <|
 .need ((0 : Int) ≤ 0) <|
 .need (0 < (1 : Int)) <|
 .need ((0 : Int) ≤ 0) <|
 .need (0 < (1 : Int)) <|
 .need (((0 : Nat) + 2 : Nat) ≤ 2) <|
 let y1020 : (List Int) := [8, 8]
 let y1021 := x.2.2
 let y1022 := y1021.1
 let y1023 : ((List Int) × Int) := (y1020, y1022)
 .need (pre99 y1023) <|
 let y1024 := ((fn99 y1023) == true)
 .ite y1024 (
 let y1025 := y1021.2
 let y1026 := y1025.1
 .need (pre144 y1026) <|
 let y1027 := ((fn144 y1026) == true)
 .ite y1027 (
 let y1028 := y1025.2.1
 .need (pre123 y1028) <|
 let y1029 := ((fn123 y1028) == true)
 .ite y1029 (
 .need (((0 : Nat) + 2 : Nat) ≤ 2) <|
 .need (((0 : Nat) + 2 : Nat) ≤ 2) <|
 let y1030 : (Int × Unit) := (0, ())
 let y1031 : ((List Int) × (Int × Unit)) := (y1020, y1030)
 let y1032 : Int := (iand .u8 x.2.1 15)
 let y1033 : (List Int) := [15, (iadd .u8 128 y1032)]
 let y1034 : (Int × (Int × Int)) := (0, (0, 4))
 let y1035 : (((List Int) × (Int × Unit)) × ((Unit × (Unit × ((List Int) × (Int × (Int × Int))))) × Bool)) := (y1031, (((), ((), (y1033, y1034))), true))
 .ret (.inr y1035)) (
 let y1036 : Int := (iand .u8 x.2.1 15)
 let y1037 : (List Int) := [15, (iadd .u8 128 y1036)]
 .ret (.inl (.h14 y1020 y1037)))) (
 let y1038 : Int := (iand .u8 x.2.1 15)
 let y1039 : (List Int) := [15, (iadd .u8 128 y1038)]
 .ret (.inl (.h14 y1020 y1039)))) (
 let y1040 : Int := (iand .u8 x.2.1 15)
 let y1041 : (List Int) := [15, (iadd .u8 128 y1040)]
 .ret (.inl (.h14 y1020 y1041)))) (
 .ite y670 (
 .need ((0 : Nat) < 1) <|
 .need ((0 : Nat) < 2) <|
 .need ((1 : Nat) < 2) <|
 .need ((0 : Int) ≤ 0) <|
 .need (0 < (1 : Int)) <|
 .need ((0 : Int) ≤ 0) <|
 .need (0 < (1 : Int)) <|
 .need (((0 : Nat) + 2 : Nat) ≤ 2) <|
 let y1042 : (List Int) := [8, 8]
 let y1043 := x.2.2
 let y1044 := y1043.1
 let y1045 : ((List Int) × Int) := (y1042, y1044)
 .need (pre99 y1045) <|
 let y1046 := ((fn99 y1045) == true)
 .ite y1046 (
 let y1047 := y1043.2
 let y1048 := y1047.1
 .need (pre144 y1048) <|
 let y1049 := ((fn144 y1048) == true)
 .ite y1049 (
 let y1050 := y1047.2.1
 .need (pre144 y1050) <|
 let y1051 := ((fn144 y1050) == true)
 .ite y1051 (
 .need (((0 : Nat) + 2 : Nat) ≤ 2) <|
 .need (((0 : Nat) + 1 : Nat) ≤ 1) <|
 let y1052 : (Int × Unit) := (0, ())
 let y1053 : ((List Int) × (Int × Unit)) := (y1042, y1052)
 let y1054 : (Int × (Int × Int)) := (0, (0, 0))
 let y1055 : (((List Int) × (Int × Unit)) × ((Unit × (Unit × ((List Int) × (Int × (Int × Int))))) × Bool)) := (y1053, (((), ((), ([195], y1054))), true))
 .ret (.inr y1055)) (
 .ret (.inl (.h15 y1042 [195])))) (
 .ret (.inl (.h15 y1042 [195])))) (
 .ret (.inl (.h15 y1042 [195])))) (
 let y1056 := (ieq x.1 34)
 .ite y1056 (
 .need ((0 : Nat) < 1) <|
 .need ((0 : Nat) < 2) <|
 .need ((1 : Nat) < 2) <|
 .need ((0 : Int) ≤ 0) <|
 .need (0 < (1 : Int)) <|
 .need ((0 : Int) ≤ 0) <|
 .need (0 < (1 : Int)) <|
 .need (((0 : Nat) + 2 : Nat) ≤ 2) <|
 let y1057 : (List Int) := [8, 8]
 let y1058 := x.2.2
 let y1059 := y1058.1
 let y1060 : ((List Int) × Int) := (y1057, y1059)
 .need (pre99 y1060) <|
 let y1061 := ((fn99 y1060) == true)
 .ite y1061 (
 let y1062 := y1058.2
 let y1063 := y1062.1
 .need (pre144 y1063) <|
 let y1064 := ((fn144 y1063) == true)
 .ite y1064 (
 let y1065 := y1062.2.1
 .need (pre144 y1065) <|
 let y1066 := ((fn144 y1065) == true)
 .ite y1066 (
 .need (((0 : Nat) + 2 : Nat) ≤ 2) <|
 .need (((0 : Nat) + 1 : Nat) ≤ 1) <|
 let y1067 : (Int × Unit) := (0, ())
 let y1068 : ((List Int) × (Int × Unit)) := (y1057, y1067)
 let y1069 : (Int × (Int × Int)) := (0, (0, 0))
 let y1070 : (((List Int) × (Int × Unit)) × ((Unit × (Unit × ((List Int) × (Int × (Int × Int))))) × Bool)) := (y1068, (((), ((), ([144], y1069))), true))
 .ret (.inr y1070)) (
 .ret (.inl (.h15 y1057 [144])))) (
 .ret (.inl (.h15 y1057 [144])))) (
 .ret (.inl (.h15 y1057 [144])))) (
 let y1071 := (ieq x.1 24)
 .ite y1071 (
 .need ((0 : Nat) < 1) <|
 .need ((0 : Nat) < 2) <|
 .need ((1 : Nat) < 2) <|
 .need ((0 : Int) ≤ 0) <|
 .need (0 < (1 : Int)) <|
 .need ((0 : Int) ≤ 0) <|
 .need (0 < (1 : Int)) <|
 .need (((0 : Nat) + 2 : Nat) ≤ 2) <|
 let y1072 : (List Int) := [8, 8]
 let y1073 := x.2.2
 let y1074 := y1073.1
 let y1075 : ((List Int) × Int) := (y1072, y1074)
 .need (pre99 y1075) <|
 let y1076 := ((fn99 y1075) == true)
 .ite y1076 (
 let y1077 := y1073.2
 let y1078 := y1077.1
 .need (pre120 y1078) <|
 let y1079 := ((fn120 y1078) == true)
 .ite y1079 (
 let y1080 := y1077.2.1
 .need (pre144 y1080) <|
 let y1081 := ((fn144 y1080) == true)
 .ite y1081 (
 .need (((0 : Nat) + 2 : Nat) ≤ 2) <|
 .need (((0 : Nat) + 1 : Nat) ≤ 1) <|
 let y1082 : (Int × Unit) := (0, ())
 let y1083 : ((List Int) × (Int × Unit)) := (y1072, y1082)
 let y1084 : (Int × (Int × Int)) := (0, (3, 0))
 let y1085 : (((List Int) × (Int × Unit)) × ((Unit × (Unit × ((List Int) × (Int × (Int × Int))))) × Bool)) := (y1083, (((), ((), ([80], y1084))), true))
 .ret (.inr y1085)) (
 .ret (.inl (.h16 y1072 [80])))) (
 .ret (.inl (.h16 y1072 [80])))) (
 .ret (.inl (.h16 y1072 [80])))) (
 .need ((0 : Nat) < 1) <|
 .need ((0 : Nat) < 2) <|
 .need ((1 : Nat) < 2) <|
 .need ((0 : Int) ≤ 0) <|
 .need (0 < (1 : Int)) <|
 .need ((0 : Int) ≤ 0) <|
 .need (0 < (1 : Int)) <|
 .need (((0 : Nat) + 2 : Nat) ≤ 2) <|
 let y1086 : (List Int) := [8, 8]
 let y1087 := x.2.2
 let y1088 := y1087.1
 let y1089 : ((List Int) × Int) := (y1086, y1088)
 .need (pre99 y1089) <|
 let y1090 := ((fn99 y1089) == true)
 .ite y1090 (
 let y1091 := y1087.2
 let y1092 := y1091.1
 .need (pre120 y1092) <|
 let y1093 := ((fn120 y1092) == true)
 .ite y1093 (
 let y1094 := y1091.2.1
 .need (pre144 y1094) <|
 let y1095 := ((fn144 y1094) == true)
 .ite y1095 (
 .need (((0 : Nat) + 2 : Nat) ≤ 2) <|
 .need (((0 : Nat) + 1 : Nat) ≤ 1) <|
 let y1096 : (Int × Unit) := (0, ())
 let y1097 : ((List Int) × (Int × Unit)) := (y1086, y1096)
 let y1098 : (Int × (Int × Int)) := (0, (3, 0))
 let y1099 : (((List Int) × (Int × Unit)) × ((Unit × (Unit × ((List Int) × (Int × (Int × Int))))) × Bool)) := (y1097, (((), ((), ([88], y1098))), true))
 .ret (.inr y1099)) (
 .ret (.inl (.h16 y1086 [88])))) (
 .ret (.inl (.h16 y1086 [88])))) (
 .ret (.inl (.h16 y1086 [88]))))))))))) (
 .ite y667 (
 .need ((0 : Nat) < 1) <|
 .need ((0 : Nat) < 2) <|
 .need ((1 : Nat) < 2) <|
 .need ((0 : Int) ≤ 0) <|
 .need (0 < (1 : Int)) <|
 .need ((0 : Int) ≤ 0) <|
 .need (0 < (1 : Int)) <|
 .need (((0 : Nat) + 2 : Nat) ≤ 2) <|
 let y1100 : (List Int) := [8, 8]
 let y1101 := x.2.2
 let y1102 := y1101.1
 let y1103 : ((List Int) × Int) := (y1100, y1102)
 .need (pre99 y1103) <|
 let y1104 := ((fn99 y1103) == true)
 .ite y1104 (
 let y1105 := y1101.2
 let y1106 := y1105.1
 .need (pre144 y1106) <|
 let y1107 := ((fn144 y1106) == true)
 .ite y1107 (
 let y1108 := y1105.2.1
 .need (pre123 y1108) <|
 let y1109 := ((fn123 y1108) == true)
 .ite y1109 (
 .need (((0 : Nat) + 2 : Nat) ≤ 2) <|
 .need (((0 : Nat) + 1 : Nat) ≤ 1) <|
 let y1110 : (Int × Unit) := (0, ())
 let y1111 : ((List Int) × (Int × Unit)) := (y1100, y1110)
 let y1112 : (Int × (Int × Int)) := (0, (0, 4))
 let y1113 : (((List Int) × (Int × Unit)) × ((Unit × (Unit × ((List Int) × (Int × (Int × Int))))) × Bool)) := (y1111, (((), ((), ([232], y1112))), true))
 .ret (.inr y1113)) (
 .ret (.inl (.h12 y1100 [232])))) (
 .ret (.inl (.h12 y1100 [232])))) (
 .ret (.inl (.h12 y1100 [232])))) (
 .ite y668 (
 .need ((0 : Nat) < 1) <|
 .need ((0 : Nat) < 1) <|
 .need ((0 : Nat) < 2) <|
 .need ((1 : Nat) < 2) <|
 .need ((0 : Int) ≤ 0) <|
 .need (0 < (1 : Int)) <|
 .need ((0 : Int) ≤ 0) <|
 .need (0 < (2 : Int)) <|
 .need (((0 : Nat) + 2 : Nat) ≤ 2) <|
 let y1114 : (List Int) := [8, 8]
 let y1115 := x.2.2
 let y1116 := y1115.1
 let y1117 : ((List Int) × Int) := (y1114, y1116)
 .need (pre99 y1117) <|
 let y1118 := ((fn99 y1117) == true)
 .ite y1118 (
 let y1119 := y1115.2
 let y1120 := y1119.1
 .need (pre144 y1120) <|
 let y1121 := ((fn144 y1120) == true)
 .ite y1121 (
 let y1122 := y1119.2.1
 .need (pre123 y1122) <|
 let y1123 := ((fn123 y1122) == true)
 .ite y1123 (
 .need (((0 : Nat) + 2 : Nat) ≤ 2) <|
 .need (((0 : Nat) + 1 : Nat) ≤ 1) <|
 let y1124 : (Int × Unit) := (0, ())
 let y1125 : ((List Int) × (Int × Unit)) := (y1114, y1124)
 let y1126 : (Int × (Int × Int)) := (0, (0, 4))
 let y1127 : (((List Int) × (Int × Unit)) × ((Unit × (Unit × ((List Int) × (Int × (Int × Int))))) × Bool)) := (y1125, (((), ((), ([233], y1126))), true))
 .ret (.inr y1127)) (
 .ret (.inl (.h13 y1114 [233] [255])))) (
 .ret (.inl (.h13 y1114 [233] [255])))) (
 .ret (.inl (.h13 y1114 [233] [255])))) (
 .ite y669 (
 .need ((0 : Nat) < 2) <|
 .need ((1 : Nat) < 2) <|
 .need ((0 : Nat) < 2) <|
 .need ((1 : Nat) < 2) <|
 .need ((0 : Int) ≤ 0) <|
 .need (0 < (1 : Int)) <|
 .need ((0 : Int) ≤ 0) <|
 .need (0 < (1 : Int)) <|
 .need (((0 : Nat) + 2 : Nat) ≤ 2) <|
 let y1128 : (List Int) := [8, 8]
 let y1129 := x.2.2
 let y1130 := y1129.1
 let y1131 : ((List Int) × Int) := (y1128, y1130)
 .need (pre99 y1131) <|
 let y1132 := ((fn99 y1131) == true)
 .ite y1132 (
 let y1133 := y1129.2
 let y1134 := y1133.1
 .need (pre144 y1134) <|
 let y1135 := ((fn144 y1134) == true)
 .ite y1135 (
 let y1136 := y1133.2.1
 .need (pre123 y1136) <|
 let y1137 := ((fn123 y1136) == true)
 .ite y1137 (
 .need (((0 : Nat) + 2 : Nat) ≤ 2) <|
 .need (((0 : Nat) + 2 : Nat) ≤ 2) <|
 let y1138 : (Int × Unit) := (0, ())
 let y1139 : ((List Int) × (Int × Unit)) := (y1128, y1138)
 let y1140 : Int := (iand .u8 x.2.1 15)
 let y1141 : (List Int) := [15, (iadd .u8 128 y1140)]
 let y1142 : (Int × (Int × Int)) := (0, (0, 4))
 let y1143 : (((List Int) × (Int × Unit)) × ((Unit × (Unit × ((List Int) × (Int × (Int × Int))))) × Bool)) := (y1139, (((), ((), (y1141, y1142))), true))
 .ret (.inr y1143)) (
 let y1144 : Int := (iand .u8 x.2.1 15)
 let y1145 : (List Int) := [15, (iadd .u8 128 y1144)]
 .ret (.inl (.h14 y1128 y1145)))) (
 let y1146 : Int := (iand .u8 x.2.1 15)
 let y1147 : (List Int) := [15, (iadd .u8 128 y1146)]
 .ret (.inl (.h14 y1128 y1147)))) (
 let y1148 : Int := (iand .u8 x.2.1 15)
 let y1149 : (List Int) := [15, (iadd .u8 128 y1148)]
 .ret (.inl (.h14 y1128 y1149)))) (
 let y1150 := (ieq x.1 27)
 .ite y1150 (
 .need ((0 : Nat) < 1) <|
 .need ((0 : Nat) < 2) <|
 .need ((1 : Nat) < 2) <|
 .need ((0 : Int) ≤ 0) <|
 .need (0 < (1 : Int)) <|
 .need ((0 : Int) ≤ 0) <|
 .need (0 < (1 : Int)) <|
 .need (((0 : Nat) + 2 : Nat) ≤ 2) <|
 let y1151 : (List Int) := [8, 8]
 let y1152 := x.2.2
 let y1153 := y1152.1
 let y1154 : ((List Int) × Int) := (y1151, y1153)
 .need (pre99 y1154) <|
 let y1155 := ((fn99 y1154) == true)
 .ite y1155 (
 let y1156 := y1152.2
 let y1157 := y1156.1
 .need (pre144 y1157) <|
 let y1158 := ((fn144 y1157) == true)
 .ite y1158 (
 let y1159 := y1156.2.1
 .need (pre144 y1159) <|
 let y1160 := ((fn144 y1159) == true)
 .ite y1160 (
 .need (((0 : Nat) + 2 : Nat) ≤ 2) <|
 .need (((0 : Nat) + 1 : Nat) ≤ 1) <|
 let y1161 : (Int × Unit) := (0, ())
 let y1162 : ((List Int) × (Int × Unit)) := (y1151, y1161)
 let y1163 : (Int × (Int × Int)) := (0, (0, 0))
 let y1164 : (((List Int) × (Int × Unit)) × ((Unit × (Unit × ((List Int) × (Int × (Int × Int))))) × Bool)) := (y1162, (((), ((), ([195], y1163))), true))
 .ret (.inr y1164)) (
 .ret (.inl (.h15 y1151 [195])))) (
 .ret (.inl (.h15 y1151 [195])))) (
 .ret (.inl (.h15 y1151 [195])))) (
 let y1165 := (ieq x.1 34)
 .ite y1165 (
 .need ((0 : Nat) < 1) <|
 .need ((0 : Nat) < 2) <|
 .need ((1 : Nat) < 2) <|
 .need ((0 : Int) ≤ 0) <|
 .need (0 < (1 : Int)) <|
 .need ((0 : Int) ≤ 0) <|
 .need (0 < (1 : Int)) <|
 .need (((0 : Nat) + 2 : Nat) ≤ 2) <|
 let y1166 : (List Int) := [8, 8]
 let y1167 := x.2.2
 let y1168 := y1167.1
 let y1169 : ((List Int) × Int) := (y1166, y1168)
 .need (pre99 y1169) <|
 let y1170 := ((fn99 y1169) == true)
 .ite y1170 (
 let y1171 := y1167.2
 let y1172 := y1171.1
 .need (pre144 y1172) <|
 let y1173 := ((fn144 y1172) == true)
 .ite y1173 (
 let y1174 := y1171.2.1
 .need (pre144 y1174) <|
 let y1175 := ((fn144 y1174) == true)
 .ite y1175 (
 .need (((0 : Nat) + 2 : Nat) ≤ 2) <|
 .need (((0 : Nat) + 1 : Nat) ≤ 1) <|
 let y1176 : (Int × Unit) := (0, ())
 let y1177 : ((List Int) × (Int × Unit)) := (y1166, y1176)
 let y1178 : (Int × (Int × Int)) := (0, (0, 0))
 let y1179 : (((List Int) × (Int × Unit)) × ((Unit × (Unit × ((List Int) × (Int × (Int × Int))))) × Bool)) := (y1177, (((), ((), ([144], y1178))), true))
 .ret (.inr y1179)) (
 .ret (.inl (.h15 y1166 [144])))) (
 .ret (.inl (.h15 y1166 [144])))) (
 .ret (.inl (.h15 y1166 [144])))) (
 let y1180 := (ieq x.1 24)
 .ite y1180 (
 .need ((0 : Nat) < 1) <|
 .need ((0 : Nat) < 2) <|
 .need ((1 : Nat) < 2) <|
 .need ((0 : Int) ≤ 0) <|
 .need (0 < (1 : Int)) <|
 .need ((0 : Int) ≤ 0) <|
 .need (0 < (1 : Int)) <|
 .need (((0 : Nat) + 2 : Nat) ≤ 2) <|
 let y1181 : (List Int) := [8, 8]
 let y1182 := x.2.2
 let y1183 := y1182.1
 let y1184 : ((List Int) × Int) := (y1181, y1183)
 .need (pre99 y1184) <|
 let y1185 := ((fn99 y1184) == true)
 .ite y1185 (
 let y1186 := y1182.2
 let y1187 := y1186.1
 .need (pre120 y1187) <|
 let y1188 := ((fn120 y1187) == true)
 .ite y1188 (
 let y1189 := y1186.2.1
 .need (pre144 y1189) <|
 let y1190 := ((fn144 y1189) == true)
 .ite y1190 (
 .need (((0 : Nat) + 2 : Nat) ≤ 2) <|
 .need (((0 : Nat) + 1 : Nat) ≤ 1) <|
 let y1191 : (Int × Unit) := (0, ())
 let y1192 : ((List Int) × (Int × Unit)) := (y1181, y1191)
 let y1193 : (Int × (Int × Int)) := (0, (3, 0))
 let y1194 : (((List Int) × (Int × Unit)) × ((Unit × (Unit × ((List Int) × (Int × (Int × Int))))) × Bool)) := (y1192, (((), ((), ([80], y1193))), true))
 .ret (.inr y1194)) (
 .ret (.inl (.h16 y1181 [80])))) (
 .ret (.inl (.h16 y1181 [80])))) (
 .ret (.inl (.h16 y1181 [80])))) (
 .need ((0 : Nat) < 1) <|
 .need ((0 : Nat) < 2) <|
 .need ((1 : Nat) < 2) <|
 .need ((0 : Int) ≤ 0) <|
 .need (0 < (1 : Int)) <|
 .need ((0 : Int) ≤ 0) <|
 .need (0 < (1 : Int)) <|
 .need (((0 : Nat) + 2 : Nat) ≤ 2) <|
 let y1195 : (List Int) := [8, 8]
 let y1196 := x.2.2
 let y1197 := y1196.1
 let y1198 : ((List Int) × Int) := (y1195, y1197)
 .need (pre99 y1198) <|
 let y1199 := ((fn99 y1198) == true)
 .ite y1199 (
 let y1200 := y1196.2
 let y1201 := y1200.1
 .need (pre120 y1201) <|
 let y1202 := ((fn120 y1201) == true)
 .ite y1202 (
 let y1203 := y1200.2.1
 .need (pre144 y1203) <|
 let y1204 := ((fn144 y1203) == true)
 .ite y1204 (
 .need (((0 : Nat) + 2 : Nat) ≤ 2) <|
 .need (((0 : Nat) + 1 : Nat) ≤ 1) <|
 let y1205 : (Int × Unit) := (0, ())
 let y1206 : ((List Int) × (Int × Unit)) := (y1195, y1205)
 let y1207 : (Int × (Int × Int)) := (0, (3, 0))
 let y1208 : (((List Int) × (Int × Unit)) × ((Unit × (Unit × ((List Int) × (Int × (Int × Int))))) × Bool)) := (y1206, (((), ((), ([88], y1207))), true))
 .ret (.inr y1208)) (
 .ret (.inl (.h16 y1195 [88])))) (
 .ret (.inl (.h16 y1195 [88])))) (
 .ret (.inl (.h16 y1195 [88]))))))))))) (
 .ite y667 (
 .need ((0 : Nat) < 1) <|
 .need ((0 : Nat) < 2) <|
 .need ((1 : Nat) < 2) <|
 .need ((0 : Int) ≤ 0) <|
 .need (0 < (1 : Int)) <|
 .need ((0 : Int) ≤ 0) <|
 .need (0 < (1 : Int)) <|
 .need (((0 : Nat) + 2 : Nat) ≤ 2) <|
 let y1209 : (List Int) := [8, 8]
 let y1210 := x.2.2
 let y1211 := y1210.1
 let y1212 : ((List Int) × Int) := (y1209, y1211)
 .need (pre99 y1212) <|
 let y1213 := ((fn99 y1212) == true)
 .ite y1213 (
 let y1214 := y1210.2
 let y1215 := y1214.1
 .need (pre144 y1215) <|
 let y1216 := ((fn144 y1215) == true)
 .ite y1216 (
 let y1217 := y1214.2.1
 .need (pre123 y1217) <|
 let y1218 := ((fn123 y1217) == true)
 .ite y1218 (
 .need (((0 : Nat) + 2 : Nat) ≤ 2) <|
 .need (((0 : Nat) + 1 : Nat) ≤ 1) <|
 let y1219 : (Int × Unit) := (0, ())
 let y1220 : ((List Int) × (Int × Unit)) := (y1209, y1219)
 let y1221 : (Int × (Int × Int)) := (0, (0, 4))
 let y1222 : (((List Int) × (Int × Unit)) × ((Unit × (Unit × ((List Int) × (Int × (Int × Int))))) × Bool)) := (y1220, (((), ((), ([232], y1221))), true))
 .ret (.inr y1222)) (
 .ret (.inl (.h12 y1209 [232])))) (
 .ret (.inl (.h12 y1209 [232])))) (
 .ret (.inl (.h12 y1209 [232])))) (
 .ite y668 (
 .need ((0 : Nat) < 1) <|
 .need ((0 : Nat) < 1) <|
 .need ((0 : Nat) < 2) <|
 .need ((1 : Nat) < 2) <|
 .need ((0 : Int) ≤ 0) <|
 .need (0 < (1 : Int)) <|
 .need ((0 : Int) ≤ 0) <|
 .need (0 < (2 : Int)) <|
 .need (((0 : Nat) + 2 : Nat) ≤ 2) <|
 let y1223 : (List Int) := [8, 8]
 let y1224 := x.2.2
 let y1225 := y1224.1
 let y1226 : ((List Int) × Int) := (y1223, y1225)
 .need (pre99 y1226) <|
 let y1227 := ((fn99 y1226) == true)
 .ite y1227 (
 let y1228 := y1224.2
 let y1229 := y1228.1
 .need (pre144 y1229) <|
 let y1230 := ((fn144 y1229) == true)
 .ite y1230 (
 let y1231 := y1228.2.1
 .need (pre123 y1231) <|
 let y1232 := ((fn123 y1231) == true)
 .ite y1232 (
 .need (((0 : Nat) + 2 : Nat) ≤ 2) <|
 .need (((0 : Nat) + 1 : Nat) ≤ 1) <|
 let y1233 : (Int × Unit) := (0, ())
 let y1234 : ((List Int) × (Int × Unit)) := (y1223, y1233)
 let y1235 : (Int × (Int × Int)) := (0, (0, 4))
 let y1236 : (((List Int) × (Int × Unit)) × ((Unit × (Unit × ((List Int) × (Int × (Int × Int))))) × Bool)) := (y1234, (((), ((), ([233], y1235))), true))
 .ret (.inr y1236)) (
 .ret (.inl (.h13 y1223 [233] [255])))) (
 .ret (.inl (.h13 y1223 [233] [255])))) (
 .ret (.inl (.h13 y1223 [233] [255])))) (
 let y1237 := (ieq x.1 29)
 .ite y1237 (
 .need ((0 : Nat) < 2) <|
 .need ((1 : Nat) < 2) <|
 .need ((0 : Nat) < 2) <|
 .need ((1 : Nat) < 2) <|
 .need ((0 : Int) ≤ 0) <|
 .need (0 < (1 : Int)) <|
 .need ((0 : Int) ≤ 0) <|
 .need (0 < (1 : Int)) <|
 .need (((0 : Nat) + 2 : Nat) ≤ 2) <|
 let y1238 : (List Int) := [8, 8]
 let y1239 := x.2.2
 let y1240 := y1239.1
 let y1241 : ((List Int) × Int) := (y1238, y1240)
 .need (pre99 y1241) <|
 let y1242 := ((fn99 y1241) == true)
 .ite y1242 (
 let y1243 := y1239.2
 let y1244 := y1243.1
 .need (pre144 y1244) <|
 let y1245 := ((fn144 y1244) == true)
 .ite y1245 (
 let y1246 := y1243.2.1
 .need (pre123 y1246) <|
 let y1247 := ((fn123 y1246) == true)
 .ite y1247 (
 .need (((0 : Nat) + 2 : Nat) ≤ 2) <|
 .need (((0 : Nat) + 2 : Nat) ≤ 2) <|
 let y1248 : (Int × Unit) := (0, ())
 let y1249 : ((List Int) × (Int × Unit)) := (y1238, y1248)
 let y1250 : Int := (iand .u8 x.2.1 15)
 let y1251 : (List Int) := [15, (iadd .u8 128 y1250)]
 let y1252 : (Int × (Int × Int)) := (0, (0, 4))
 let y1253 : (((List Int) × (Int × Unit)) × ((Unit × (Unit × ((List Int) × (Int × (Int × Int))))) × Bool)) := (y1249, (((), ((), (y1251, y1252))), true))
 .ret (.inr y1253)) (
 let y1254 : Int := (iand .u8 x.2.1 15)
 let y1255 : (List Int) := [15, (iadd .u8 128 y1254)]
 .ret (.inl (.h14 y1238 y1255)))) (
 let y1256 : Int := (iand .u8 x.2.1 15)
 let y1257 : (List Int) := [15, (iadd .u8 128 y1256)]
 .ret (.inl (.h14 y1238 y1257)))) (
 let y1258 : Int := (iand .u8 x.2.1 15)
 let y1259 : (List Int) := [15, (iadd .u8 128 y1258)]
 .ret (.inl (.h14 y1238 y1259)))) (
 let y1260 := (ieq x.1 27)
 .ite y1260 (
 .need ((0 : Nat) < 1) <|
 .need ((0 : Nat) < 2) <|
 .need ((1 : Nat) < 2) <|
 .need ((0 : Int) ≤ 0) <|
 .need (0 < (1 : Int)) <|
 .need ((0 : Int) ≤ 0) <|
 .need (0 < (1 : Int)) <|
 .need (((0 : Nat) + 2 : Nat) ≤ 2) <|
 let y1261 : (List Int) := [8, 8]
 let y1262 := x.2.2
 let y1263 := y1262.1
 let y1264 : ((List Int) × Int) := (y1261, y1263)
 .need (pre99 y1264) <|
 let y1265 := ((fn99 y1264) == true)
 .ite y1265 (
 let y1266 := y1262.2
 let y1267 := y1266.1
 .need (pre144 y1267) <|
 let y1268 := ((fn144 y1267) == true)
 .ite y1268 (
 let y1269 := y1266.2.1
 .need (pre144 y1269) <|
 let y1270 := ((fn144 y1269) == true)
 .ite y1270 (
 .need (((0 : Nat) + 2 : Nat) ≤ 2) <|
 .need (((0 : Nat) + 1 : Nat) ≤ 1) <|
 let y1271 : (Int × Unit) := (0, ())
 let y1272 : ((List Int) × (Int × Unit)) := (y1261, y1271)
 let y1273 : (Int × (Int × Int)) := (0, (0, 0))
 let y1274 : (((List Int) × (Int × Unit)) × ((Unit × (Unit × ((List Int) × (Int × (Int × Int))))) × Bool)) := (y1272, (((), ((), ([195], y1273))), true))
 .ret (.inr y1274)) (
 .ret (.inl (.h15 y1261 [195])))) (
 .ret (.inl (.h15 y1261 [195])))) (
 .ret (.inl (.h15 y1261 [195])))) (
 let y1275 := (ieq x.1 34)
 .ite y1275 (
 .need ((0 : Nat) < 1) <|
 .need ((0 : Nat) < 2) <|
 .need ((1 : Nat) < 2) <|
 .need ((0 : Int) ≤ 0) <|
 .need (0 < (1 : Int)) <|
 .need ((0 : Int) ≤ 0) <|
 .need (0 < (1 : Int)) <|
 .need (((0 : Nat) + 2 : Nat) ≤ 2) <|
 let y1276 : (List Int) := [8, 8]
 let y1277 := x.2.2
 let y1278 := y1277.1
 let y1279 : ((List Int) × Int) := (y1276, y1278)
 .need (pre99 y1279) <|
 let y1280 := ((fn99 y1279) == true)
 .ite y1280 (
 let y1281 := y1277.2
 let y1282 := y1281.1
 .need (pre144 y1282) <|
 let y1283 := ((fn144 y1282) == true)
 .ite y1283 (
 let y1284 := y1281.2.1
 .need (pre144 y1284) <|
 let y1285 := ((fn144 y1284) == true)
 .ite y1285 (
 .need (((0 : Nat) + 2 : Nat) ≤ 2) <|
 .need (((0 : Nat) + 1 : Nat) ≤ 1) <|
 let y1286 : (Int × Unit) := (0, ())
 let y1287 : ((List Int) × (Int × Unit)) := (y1276, y1286)
 let y1288 : (Int × (Int × Int)) := (0, (0, 0))
 let y1289 : (((List Int) × (Int × Unit)) × ((Unit × (Unit × ((List Int) × (Int × (Int × Int))))) × Bool)) := (y1287, (((), ((), ([144], y1288))), true))
 .ret (.inr y1289)) (
 .ret (.inl (.h15 y1276 [144])))) (
 .ret (.inl (.h15 y1276 [144])))) (
 .ret (.inl (.h15 y1276 [144])))) (
 let y1290 := (ieq x.1 24)
 .ite y1290 (
 .need ((0 : Nat) < 1) <|
 .need ((0 : Nat) < 2) <|
 .need ((1 : Nat) < 2) <|
 .need ((0 : Int) ≤ 0) <|
 .need (0 < (1 : Int)) <|
 .need ((0 : Int) ≤ 0) <|
 .need (0 < (1 : Int)) <|
 .need (((0 : Nat) + 2 : Nat) ≤ 2) <|
 let y1291 : (List Int) := [8, 8]
 let y1292 := x.2.2
 let y1293 := y1292.1
 let y1294 : ((List Int) × Int) := (y1291, y1293)
 .need (pre99 y1294) <|
 let y1295 := ((fn99 y1294) == true)
 .ite y1295 (
 let y1296 := y1292.2
 let y1297 := y1296.1
 .need (pre120 y1297) <|
 let y1298 := ((fn120 y1297) == true)
 .ite y1298 (
 let y1299 := y1296.2.1
 .need (pre144 y1299) <|
 let y1300 := ((fn144 y1299) == true)
 .ite y1300 (
 .need (((0 : Nat) + 2 : Nat) ≤ 2) <|
 .need (((0 : Nat) + 1 : Nat) ≤ 1) <|
 let y1301 : (Int × Unit) := (0, ())
 let y1302 : ((List Int) × (Int × Unit)) := (y1291, y1301)
 let y1303 : (Int × (Int × Int)) := (0, (3, 0))
 let y1304 : (((List Int) × (Int × Unit)) × ((Unit × (Unit × ((List Int) × (Int × (Int × Int))))) × Bool)) := (y1302, (((), ((), ([80], y1303))), true))
 .ret (.inr y1304)) (
 .ret (.inl (.h16 y1291 [80])))) (
 .ret (.inl (.h16 y1291 [80])))) (
 .ret (.inl (.h16 y1291 [80])))) (
 .need ((0 : Nat) < 1) <|
 .need ((0 : Nat) < 2) <|
 .need ((1 : Nat) < 2) <|
 .need ((0 : Int) ≤ 0) <|
 .need (0 < (1 : Int)) <|
 .need ((0 : Int) ≤ 0) <|
 .need (0 < (1 : Int)) <|
 .need (((0 : Nat) + 2 : Nat) ≤ 2) <|
 let y1305 : (List Int) := [8, 8]
 let y1306 := x.2.2
 let y1307 := y1306.1
 let y1308 : ((List Int) × Int) := (y1305, y1307)
 .need (pre99 y1308) <|
 let y1309 := ((fn99 y1308) == true)
 .ite y1309 (
 let y1310 := y1306.2
 let y1311 := y1310.1
 .need (pre120 y1311) <|
 let y1312 := ((fn120 y1311) == true)
 .ite y1312 (
 let y1313 := y1310.2.1
 .need (pre144 y1313) <|
 let y1314 := ((fn144 y1313) == true)
 .ite y1314 (
 .need (((0 : Nat) + 2 : Nat) ≤ 2) <|
 .need (((0 : Nat) + 1 : Nat) ≤ 1) <|
 let y1315 : (Int × Unit) := (0, ())
 let y1316 : ((List Int) × (Int × Unit)) := (y1305, y1315)
 let y1317 : (Int × (Int × Int)) := (0, (3, 0))
 let y1318 : (((List Int) × (Int × Unit)) × ((Unit × (Unit × ((List Int) × (Int × (Int × Int))))) × Bool)) := (y1316, (((), ((), ([88], y1317))), true))
 .ret (.inr y1318)) (
 .ret (.inl (.h16 y1305 [88])))) (
 .ret (.inl (.h16 y1305 [88])))) (
 .ret (.inl (.h16 y1305 [88]))))))))))) (
 .ite y667 (
 .need ((0 : Nat) < 1) <|
 .need ((0 : Nat) < 2) <|
 .need ((1 : Nat) < 2) <|
 .need ((0 : Int) ≤ 0) <|
 .need (0 < (1 : Int)) <|
 .need ((0 : Int) ≤ 0) <|
 .need (0 < (1 : Int)) <|
 .need (((0 : Nat) + 2 : Nat) ≤ 2) <|
 let y1319 : (List Int) := [8, 8]
 let y1320 := x.2.2
 let y1321 := y1320.1
 let y1322 : ((List Int) × Int) := (y1319, y1321)
 .need (pre99 y1322) <|
 let y1323 := ((fn99 y1322) == true)
 .ite y1323 (
 let y1324 := y1320.2
 let y1325 := y1324.1
 .need (pre144 y1325) <|
 let y1326 := ((fn144 y1325) == true)
 .ite y1326 (
 let y1327 := y1324.2.1
 .need (pre123 y1327) <|
 let y1328 := ((fn123 y1327) == true)
 .ite y1328 (
 .need (((0 : Nat) + 2 : Nat) ≤ 2) <|
 .need (((0 : Nat) + 1 : Nat) ≤ 1) <|
 let y1329 : (Int × Unit) := (0, ())
 let y1330 : ((List Int) × (Int × Unit)) := (y1319, y1329)
 let y1331 : (Int × (Int × Int)) := (0, (0, 4))
 let y1332 : (((List Int) × (Int × Unit)) × ((Unit × (Unit × ((List Int) × (Int × (Int × Int))))) × Bool)) := (y1330, (((), ((), ([232], y1331))), true))
 .ret (.inr y1332)) (
 .ret (.inl (.h12 y1319 [232])))) (
 .ret (.inl (.h12 y1319 [232])))) (
 .ret (.inl (.h12 y1319 [232])))) (
 let y1333 := (ieq x.1 28)
 .ite y1333 (
 .need ((0 : Nat) < 1) <|
 .need ((0 : Nat) < 1) <|
 .need ((0 : Nat) < 2) <|
 .need ((1 : Nat) < 2) <|
 .need ((0 : Int) ≤ 0) <|
 .need (0 < (1 : Int)) <|
 .need ((0 : Int) ≤ 0) <|
 .need (0 < (2 : Int)) <|
 .need (((0 : Nat) + 2 : Nat) ≤ 2) <|
 let y1334 : (List Int) := [8, 8]
 let y1335 := x.2.2
 let y1336 := y1335.1
 let y1337 : ((List Int) × Int) := (y1334, y1336)
 .need (pre99 y1337) <|
 let y1338 := ((fn99 y1337) == true)
 .ite y1338 (
 let y1339 := y1335.2
 let y1340 := y1339.1
 .need (pre144 y1340) <|
 let y1341 := ((fn144 y1340) == true)
 .ite y1341 (
 let y1342 := y1339.2.1
 .need (pre123 y1342) <|
 let y1343 := ((fn123 y1342) == true)
 .ite y1343 (
 .need (((0 : Nat) + 2 : Nat) ≤ 2) <|
 .need (((0 : Nat) + 1 : Nat) ≤ 1) <|
 let y1344 : (Int × Unit) := (0, ())
 let y1345 : ((List Int) × (Int × Unit)) := (y1334, y1344)
 let y1346 : (Int × (Int × Int)) := (0, (0, 4))
 let y1347 : (((List Int) × (Int × Unit)) × ((Unit × (Unit × ((List Int) × (Int × (Int × Int))))) × Bool)) := (y1345, (((), ((), ([233], y1346))), true))
 .ret (.inr y1347)) (
 .ret (.inl (.h13 y1334 [233] [255])))) (
 .ret (.inl (.h13 y1334 [233] [255])))) (
 .ret (.inl (.h13 y1334 [233] [255])))) (
 let y1348 := (ieq x.1 29)
 .ite y1348 (
 .need ((0 : Nat) < 2) <|
 .need ((1 : Nat) < 2) <|
 .need ((0 : Nat) < 2) <|
 .need ((1 : Nat) < 2) <|
 .need ((0 : Int) ≤ 0) <|
 .need (0 < (1 : Int)) <|
 .need ((0 : Int) ≤ 0) <|
 .need (0 < (1 : Int)) <|
 .need (((0 : Nat) + 2 : Nat) ≤ 2) <|
 let y1349 : (List Int) := [8, 8]
 let y1350 := x.2.2
 let y1351 := y1350.1
 let y1352 : ((List Int) × Int) := (y1349, y1351)
 .need (pre99 y1352) <|
 let y1353 := ((fn99 y1352) == true)
 .ite y1353 (
 let y1354 := y1350.2
 let y1355 := y1354.1
 .need (pre144 y1355) <|
 let y1356 := ((fn144 y1355) == true)
 .ite y1356 (
 let y1357 := y1354.2.1
 .need (pre123 y1357) <|
 let y1358 := ((fn123 y1357) == true)
 .ite y1358 (
 .need (((0 : Nat) + 2 : Nat) ≤ 2) <|
 .need (((0 : Nat) + 2 : Nat) ≤ 2) <|
 let y1359 : (Int × Unit) := (0, ())
 let y1360 : ((List Int) × (Int × Unit)) := (y1349, y1359)
 let y1361 : Int := (iand .u8 x.2.1 15)
 let y1362 : (List Int) := [15, (iadd .u8 128 y1361)]
 let y1363 : (Int × (Int × Int)) := (0, (0, 4))
 let y1364 : (((List Int) × (Int × Unit)) × ((Unit × (Unit × ((List Int) × (Int × (Int × Int))))) × Bool)) := (y1360, (((), ((), (y1362, y1363))), true))
 .ret (.inr y1364)) (
 let y1365 : Int := (iand .u8 x.2.1 15)
 let y1366 : (List Int) := [15, (iadd .u8 128 y1365)]
 .ret (.inl (.h14 y1349 y1366)))) (
 let y1367 : Int := (iand .u8 x.2.1 15)
 let y1368 : (List Int) := [15, (iadd .u8 128 y1367)]
 .ret (.inl (.h14 y1349 y1368)))) (
 let y1369 : Int := (iand .u8 x.2.1 15)
 let y1370 : (List Int) := [15, (iadd .u8 128 y1369)]
 .ret (.inl (.h14 y1349 y1370)))) (
 let y1371 := (ieq x.1 27)
 .ite y1371 (
 .need ((0 : Nat) < 1) <|
 .need ((0 : Nat) < 2) <|
 .need ((1 : Nat) < 2) <|
 .need ((0 : Int) ≤ 0) <|
 .need (0 < (1 : Int)) <|
 .need ((0 : Int) ≤ 0) <|
 .need (0 < (1 : Int)) <|
 .need (((0 : Nat) + 2 : Nat) ≤ 2) <|
 let y1372 : (List Int) := [8, 8]
 let y1373 := x.2.2
 let y1374 := y1373.1
 let y1375 : ((List Int) × Int) := (y1372, y1374)
 .need (pre99 y1375) <|
 let y1376 := ((fn99 y1375) == true)
 .ite y1376 (
 let y1377 := y1373.2
 let y1378 := y1377.1
 .need (pre144 y1378) <|
 let y1379 := ((fn144 y1378) == true)
 .ite y1379 (
 let y1380 := y1377.2.1
 .need (pre144 y1380) <|
 let y1381 := ((fn144 y1380) == true)
 .ite y1381 (
 .need (((0 : Nat) + 2 : Nat) ≤ 2) <|
 .need (((0 : Nat) + 1 : Nat) ≤ 1) <|
 let y1382 : (Int × Unit) := (0, ())
 let y1383 : ((List Int) × (Int × Unit)) := (y1372, y1382)
 let y1384 : (Int × (Int × Int)) := (0, (0, 0))
 let y1385 : (((List Int) × (Int × Unit)) × ((Unit × (Unit × ((List Int) × (Int × (Int × Int))))) × Bool)) := (y1383, (((), ((), ([195], y1384))), true))
 .ret (.inr y1385)) (
 .ret (.inl (.h15 y1372 [195])))) (
 .ret (.inl (.h15 y1372 [195])))) (
 .ret (.inl (.h15 y1372 [195])))) (
 let y1386 := (ieq x.1 34)
 .ite y1386 (
 .need ((0 : Nat) < 1) <|
 .need ((0 : Nat) < 2) <|
 .need ((1 : Nat) < 2) <|
 .need ((0 : Int) ≤ 0) <|
 .need (0 < (1 : Int)) <|
 .need ((0 : Int) ≤ 0) <|
 .need (0 < (1 : Int)) <|
 .need (((0 : Nat) + 2 : Nat) ≤ 2) <|
 let y1387 : (List Int) := [8, 8]
 let y1388 := x.2.2
 let y1389 := y1388.1
 let y1390 : ((List Int) × Int) := (y1387, y1389)
 .need (pre99 y1390) <|
 let y1391 := ((fn99 y1390) == true)
 .ite y1391 (
 let y1392 := y1388.2
 let y1393 := y1392.1
 .need (pre144 y1393) <|
 let y1394 := ((fn144 y1393) == true)
 .ite y1394 (
 let y1395 := y1392.2.1
 .need (pre144 y1395) <|
 let y1396 := ((fn144 y1395) == true)
 .ite y1396 (
 .need (((0 : Nat) + 2 : Nat) ≤ 2) <|
 .need (((0 : Nat) + 1 : Nat) ≤ 1) <|
 let y1397 : (Int × Unit) := (0, ())
 let y1398 : ((List Int) × (Int × Unit)) := (y1387, y1397)
 let y1399 : (Int × (Int × Int)) := (0, (0, 0))
 let y1400 : (((List Int) × (Int × Unit)) × ((Unit × (Unit × ((List Int) × (Int × (Int × Int))))) × Bool)) := (y1398, (((), ((), ([144], y1399))), true))
 .ret (.inr y1400)) (
 .ret (.inl (.h15 y1387 [144])))) (
 .ret (.inl (.h15 y1387 [144])))) (
 .ret (.inl (.h15 y1387 [144])))) (
 let y1401 := (ieq x.1 24)
 .ite y1401 (
 .need ((0 : Nat) < 1) <|
 .need ((0 : Nat) < 2) <|
 .need ((1 : Nat) < 2) <|
 .need ((0 : Int) ≤ 0) <|
 .need (0 < (1 : Int)) <|
 .need ((0 : Int) ≤ 0) <|
 .need (0 < (1 : Int)) <|
 .need (((0 : Nat) + 2 : Nat) ≤ 2) <|
 let y1402 : (List Int) := [8, 8]
 let y1403 := x.2.2
 let y1404 := y1403.1
 let y1405 : ((List Int) × Int) := (y1402, y1404)
 .need (pre99 y1405) <|
 let y1406 := ((fn99 y1405) == true)
 .ite y1406 (
 let y1407 := y1403.2
 let y1408 := y1407.1
 .need (pre120 y1408) <|
 let y1409 := ((fn120 y1408) == true)
 .ite y1409 (
 let y1410 := y1407.2.1
 .need (pre144 y1410) <|
 let y1411 := ((fn144 y1410) == true)
 .ite y1411 (
 .need (((0 : Nat) + 2 : Nat) ≤ 2) <|
 .need (((0 : Nat) + 1 : Nat) ≤ 1) <|
 let y1412 : (Int × Unit) := (0, ())
 let y1413 : ((List Int) × (Int × Unit)) := (y1402, y1412)
 let y1414 : (Int × (Int × Int)) := (0, (3, 0))
 let y1415 : (((List Int) × (Int × Unit)) × ((Unit × (Unit × ((List Int) × (Int × (Int × Int))))) × Bool)) := (y1413, (((), ((), ([80], y1414))), true))
 .ret (.inr y1415)) (
 .ret (.inl (.h16 y1402 [80])))) (
 .ret (.inl (.h16 y1402 [80])))) (
 .ret (.inl (.h16 y1402 [80])))) (
 .need ((0 : Nat) < 1) <|
 .need ((0 : Nat) < 2) <|
 .need ((1 : Nat) < 2) <|
 .need ((0 : Int) ≤ 0) <|
 .need (0 < (1 : Int)) <|
 .need ((0 : Int) ≤ 0) <|
 .need (0 < (1 : Int)) <|
 .need (((0 : Nat) + 2 : Nat) ≤ 2) <|
 let y1416 : (List Int) := [8, 8]
 let y1417 := x.2.2
 let y1418 := y1417.1
 let y1419 : ((List Int) × Int) := (y1416, y1418)
 .need (pre99 y1419) <|
 let y1420 := ((fn99 y1419) == true)
 .ite y1420 (
 let y1421 := y1417.2
 let y1422 := y1421.1
 .need (pre120 y1422) <|
 let y1423 := ((fn120 y1422) == true)
 .ite y1423 (
 let y1424 := y1421.2.1
 .need (pre144 y1424) <|
 let y1425 := ((fn144 y1424) == true)
 .ite y1425 (
 .need (((0 : Nat) + 2 : Nat) ≤ 2) <|
 .need (((0 : Nat) + 1 : Nat) ≤ 1) <|
 let y1426 : (Int × Unit) := (0, ())
 let y1427 : ((List Int) × (Int × Unit)) := (y1416, y1426)
 let y1428 : (Int × (Int × Int)) := (0, (3, 0))
 let y1429 : (((List Int) × (Int × Unit)) × ((Unit × (Unit × ((List Int) × (Int × (Int × Int))))) × Bool)) := (y1427, (((), ((), ([88], y1428))), true))
 .ret (.inr y1429)) (
 .ret (.inl (.h16 y1416 [88])))) (
 .ret (.inl (.h16 y1416 [88])))) (
 .ret (.inl (.h16 y1416 [88])))))))))))))))))))))))))))))))))))
 | .h1 v43 v59 v65 v68 v69 v70 v71 =>
 .need ((0 : Int) ≤ 1) <|
 .need (1 < (4 : Int)) <|
 .need (((0 : Nat) + 2 : Nat) ≤ 2) <|
 let y0 : (List Int) := (v43.take 2)
 let y1 := x.2.2
 let y2 : ((List Int) × Int) := (y0, y1.1)
 .need (pre99 y2) <|
 .ite ((fn99 y2) == true) (
 let y3 := y1.2
 let y4 := y3.1
 .need (pre120 y4) <|
 .ite ((fn120 y4) == true) (
 let y5 := y3.2.1
 .need (pre121 y5) <|
 .ite ((fn121 y5) == true) (
 .need (((0 : Nat) + 2 : Nat) ≤ 2) <|
 .need (((0 : Nat) + 1 : Nat) ≤ 1) <|
 .ret (.inr ((y0, (0, ())), (((), ((), ((v69.take 1), ((-1), (2, 0))))), true)))) (
 .ret (.inl (.h18 v43 v59 v65 v68 v69 v70 v71)))) (
 .ret (.inl (.h18 v43 v59 v65 v68 v69 v70 v71)))) (
 .ret (.inl (.h18 v43 v59 v65 v68 v69 v70 v71)))
 | .h2 v43 v62 v63 v64 v86 v105 v106 v107 v108 v115 =>
 .need ((0 : Int) ≤ 1) <|
 .need (1 < (3 : Int)) <|
 .need (((0 : Nat) + 1 : Nat) ≤ 1) <|
 let y0 : (List Int) := (v43.take 1)
 let y1 := x.2.2
 let y2 : ((List Int) × Int) := (y0, y1.1)
 .need (pre99 y2) <|
 .ite ((fn99 y2) == true) (
 let y3 := y1.2
 let y4 := y3.1
 .need (pre120 y4) <|
 .ite ((fn120 y4) == true) (
 let y5 := y3.2.1
 .need (pre121 y5) <|
 .ite ((fn121 y5) == true) (
 .need (((0 : Nat) + 1 : Nat) ≤ 1) <|
 .need (((0 : Nat) + 1 : Nat) ≤ 1) <|
 .ret (.inr ((y0, (0, ())), (((), ((), ((v63.take 1), ((-1), (2, 0))))), true)))) (
 .ret (.inl (.h19 v43 v62 v63 v64 v86 v105 v106 v107 v108 v115)))) (
 .ret (.inl (.h19 v43 v62 v63 v64 v86 v105 v106 v107 v108 v115)))) (
 .ret (.inl (.h19 v43 v62 v63 v64 v86 v105 v106 v107 v108 v115)))
 | .h3 v43 v50 =>
 .ret (.inl (.h17))
 | .h4 v43 v56 v57 =>
 .need ((0 : Int) ≤ 1) <|
 .need (1 < (2 : Int)) <|
 .need (((0 : Nat) + 2 : Nat) ≤ 2) <|
 let y0 : (List Int) := (v43.take 2)
 let y1 := x.2.2
 let y2 : ((List Int) × Int) := (y0, y1.1)
 .need (pre99 y2) <|
 .ite ((fn99 y2) == true) (
 let y3 := y1.2
 let y4 := y3.1
 .need (pre119 y4) <|
 .ite ((fn119 y4) == true) (
 let y5 := y3.2.1
 .need (pre123 y5) <|
 .ite ((fn123 y5) == true) (
 .need (((0 : Nat) + 2 : Nat) ≤ 2) <|
 .need (((0 : Nat) + 1 : Nat) ≤ 1) <|
 .ret (.inr ((y0, (0, ())), (((), ((), ((v57.take 1), (0, (1, 4))))), true)))) (
 .ret (.inl (.h20 v43 v56 v57)))) (
 .ret (.inl (.h20 v43 v56 v57)))) (
 .ret (.inl (.h20 v43 v56 v57)))
 | .h5 v43 v47 v50 =>
 .ret (.inl (.h17))
 | .h6 v43 v47 v53 v56 v57 =>
 .need ((0 : Int) ≤ 1) <|
 .need (1 < (2 : Int)) <|
 .need (((0 : Nat) + 2 : Nat) ≤ 2) <|
 let y0 : (List Int) := (v43.take 2)
 let y1 := x.2.2
 let y2 : ((List Int) × Int) := (y0, y1.1)
 .need (pre99 y2) <|
 .ite ((fn99 y2) == true) (
 let y3 := y1.2
 let y4 := y3.1
 .need (pre119 y4) <|
 .ite ((fn119 y4) == true) (
 let y5 := y3.2.1
 .need (pre130 y5) <|
 .ite ((fn130 y5) == true) (
 .need (((0 : Nat) + 2 : Nat) ≤ 2) <|
 .need (((0 : Nat) + 1 : Nat) ≤ 1) <|
 .ret (.inr ((y0, (0, ())), (((), ((), ((v57.take 1), (v53, (1, 0))))), true)))) (
 .ret (.inl (.h21 v43 v47 v53 v56 v57)))) (
 .ret (.inl (.h21 v43 v47 v53 v56 v57)))) (
 .ret (.inl (.h21 v43 v47 v53 v56 v57)))
 | .h7 v43 v50 =>
 .ret (.inl (.h17))
 | .h8 v43 v50 =>
 .ret (.inl (.h17))
 | .h9 v43 v56 v57 =>
 .need ((0 : Int) ≤ 1) <|
 .need (1 < (2 : Int)) <|
 .need (((0 : Nat) + 1 : Nat) ≤ 1) <|
 let y0 : (List Int) := (v43.take 1)
 let y1 := x.2.2
 let y2 : ((List Int) × Int) := (y0, y1.1)
 .need (pre99 y2) <|
 .ite ((fn99 y2) == true) (
 let y3 := y1.2
 let y4 := y3.1
 .need (pre121 y4) <|
 .ite ((fn121 y4) == true) (
 let y5 := y3.2.1
 .need (pre126 y5) <|
 .ite ((fn126 y5) == true) (
 .need (((0 : Nat) + 1 : Nat) ≤ 1) <|
 .need (((0 : Nat) + 2 : Nat) ≤ 2) <|
 .ret (.inr ((y0, (243, ())), (((), ((), ((v57.take 2), ((-1), (1, 0))))), true)))) (
 .ret (.inl (.h22 v43 v56 v57)))) (
 .ret (.inl (.h22 v43 v56 v57)))) (
 .ret (.inl (.h22 v43 v56 v57)))
 | .h10 v43 v50 =>
 .ret (.inl (.h17))
 | .h11 v43 v49 v50 =>
 .ret (.inl (.h17))
 | .h12 v43 v50 =>
 .ret (.inl (.h17))
 | .h13 v43 v56 v57 =>
 .need ((0 : Int) ≤ 1) <|
 .need (1 < (2 : Int)) <|
 .need (((0 : Nat) + 2 : Nat) ≤ 2) <|
 let y0 : (List Int) := (v43.take 2)
 let y1 := x.2.2
 let y2 : ((List Int) × Int) := (y0, y1.1)
 .need (pre99 y2) <|
 .ite ((fn99 y2) == true) (
 let y3 := y1.2
 let y4 := y3.1
 .need (pre119 y4) <|
 .ite ((fn119 y4) == true) (
 let y5 := y3.2.1
 .need (pre144 y5) <|
 .ite ((fn144 y5) == true) (
 .need (((0 : Nat) + 2 : Nat) ≤ 2) <|
 .need (((0 : Nat) + 1 : Nat) ≤ 1) <|
 .ret (.inr ((y0, (0, ())), (((), ((), ((v57.take 1), (4, (1, 0))))), true)))) (
 .ret (.inl (.h23 v43 v56 v57)))) (
 .ret (.inl (.h23 v43 v56 v57)))) (
 .ret (.inl (.h23 v43 v56 v57)))
 | .h14 v43 v50 =>
 .ret (.inl (.h17))
 | .h15 v43 v50 =>
 .ret (.inl (.h17))
 | .h16 v43 v50 =>
 .ret (.inl (.h17))
 | .h17 =>
 .ret (.inr ((([] : List Int), (0, ())), (((), ((), (([] : List Int), (0, (0, 0))))), false)))
 | .h18 v43 v59 v65 v68 v69 v70 v71 =>
 .need ((0 : Int) ≤ 2) <|
 .need (2 < (4 : Int)) <|
 .need (((0 : Nat) + 2 : Nat) ≤ 2) <|
 let y0 : (List Int) := (v43.take 2)
 let y1 := x.2.2
 let y2 : ((List Int) × Int) := (y0, y1.1)
 .need (pre99 y2) <|
 .ite ((fn99 y2) == true) (
 let y3 := y1.2
 let y4 := y3.1
 .need (pre119 y4) <|
 .ite ((fn119 y4) == true) (
 let y5 := y3.2.1
 .need (pre122 y5) <|
 .ite ((fn122 y5) == true) (
 .need (((0 : Nat) + 2 : Nat) ≤ 2) <|
 .need (((0 : Nat) + 1 : Nat) ≤ 1) <|
 .ret (.inr ((y0, (0, ())), (((), ((), ((v70.take 1), (v59, (1, 1))))), true)))) (
 .ret (.inl (.h24 v43 v59 v65 v68 v69 v70 v71)))) (
 .ret (.inl (.h24 v43 v59 v65 v68 v69 v70 v71)))) (
 .ret (.inl (.h24 v43 v59 v65 v68 v69 v70 v71)))
 | .h19 v43 v62 v63 v64 v86 v105 v106 v107 v108 v115 =>
 .need ((0 : Int) ≤ 2) <|
 .need (2 < (3 : Int)) <|
 .need (((0 : Nat) + 1 : Nat) ≤ 1) <|
 let y0 : (List Int) := (v43.take 1)
 let y1 := x.2.2
 let y2 : ((List Int) × Int) := (y0, y1.1)
 .need (pre99 y2) <|
 .ite ((fn99 y2) == true) (
 let y3 := y1.2
 let y4 := y3.1
 .need (pre119 y4) <|
 .ite ((fn119 y4) == true) (
 let y5 := y3.2.1
 .need (pre122 y5) <|
 .ite ((fn122 y5) == true) (
 .need (((0 : Nat) + 1 : Nat) ≤ 1) <|
 .need (((0 : Nat) + 1 : Nat) ≤ 1) <|
 .ret (.inr ((y0, (0, ())), (((), ((), ((v64.take 1), (0, (1, 1))))), true)))) (
 .ret (.inl (.h25 v43 v62 v63 v64 v86 v105 v106 v107 v108 v115)))) (
 .ret (.inl (.h25 v43 v62 v63 v64 v86 v105 v106 v107 v108 v115)))) (
 .ret (.inl (.h25 v43 v62 v63 v64 v86 v105 v106 v107 v108 v115)))
 | .h20 v43 v56 v57 =>
 .ret (.inl (.h17))
 | .h21 v43 v47 v53 v56 v57 =>
 .ret (.inl (.h17))
 | .h22 v43 v56 v57 =>
 .ret (.inl (.h17))
 | .h23 v43 v56 v57 =>
 .ret (.inl (.h17))
 | .h24 v43 v59 v65 v68 v69 v70 v71 =>
 .need ((0 : Int) ≤ 3) <|
 .need (3 < (4 : Int)) <|
 .need (((0 : Nat) + 2 : Nat) ≤ 2) <|
 let y0 : (List Int) := (v43.take 2)
 let y1 := x.2.2
 let y2 : ((List Int) × Int) := (y0, y1.1)
 .need (pre99 y2) <|
 .ite ((fn99 y2) == true) (
 let y3 := y1.2
 let y4 := y3.1
 .need (pre119 y4) <|
 .ite ((fn119 y4) == true) (
 let y5 := y3.2.1
 .need (pre123 y5) <|
 .ite ((fn123 y5) == true) (
 .need (((0 : Nat) + 2 : Nat) ≤ 2) <|
 .need (((0 : Nat) + 1 : Nat) ≤ 1) <|
 .ret (.inr ((y0, (0, ())), (((), ((), ((v71.take 1), (v65, (1, 4))))), true)))) (
 .ret (.inl (.h26 v43 v59 v65 v68 v69 v70 v71)))) (
 .ret (.inl (.h26 v43 v59 v65 v68 v69 v70 v71)))) (
 .ret (.inl (.h26 v43 v59 v65 v68 v69 v70 v71)))
 | .h25 v43 v62 v63 v64 v86 v105 v106 v107 v108 v115 =>
 .need ((0 : Int) ≤ 1) <|
 .need (1 < (3 : Int)) <|
 .need ((0 : Int) ≤ 0) <|
 .need (0 < (3 : Int)) <|
 .need (((0 : Nat) + 2 : Nat) ≤ 2) <|
 let y0 : (List Int) := (v86.take 2)
 let y1 := x.2.2
 let y2 : ((List Int) × Int) := (y0, y1.1)
 .need (pre99 y2) <|
 .ite ((fn99 y2) == true) (
 let y3 := y1.2
 let y4 := y3.1
 .need (pre119 y4) <|
 .ite ((fn119 y4) == true) (
 let y5 := y3.2.1
 .need (pre120 y5) <|
 .ite ((fn120 y5) == true) (
 .need (((0 : Nat) + 2 : Nat) ≤ 2) <|
 .need (((0 : Nat) + 1 : Nat) ≤ 1) <|
 .ret (.inr ((y0, (0, ())), (((), ((), ((v105.take 1), ((-1), (1, 0))))), true)))) (
 .ret (.inl (.h27 v86 v105 v106 v107 v43 v62 v63 v64 v108 v115)))) (
 .ret (.inl (.h27 v86 v105 v106 v107 v43 v62 v63 v64 v108 v115)))) (
 .ret (.inl (.h27 v86 v105 v106 v107 v43 v62 v63 v64 v108 v115)))
 | .h26 v43 v59 v65 v68 v69 v70 v71 =>
 .ret (.inl (.h17))
 | .h27 v43 v62 v63 v64 v86 v105 v106 v107 v108 v115 =>
 .need ((0 : Int) ≤ 1) <|
 .need (1 < (3 : Int)) <|
 .need (((0 : Nat) + 2 : Nat) ≤ 2) <|
 let y0 : (List Int) := (v43.take 2)
 let y1 := x.2.2
 let y2 : ((List Int) × Int) := (y0, y1.1)
 .need (pre99 y2) <|
 .ite ((fn99 y2) == true) (
 let y3 := y1.2
 let y4 := y3.1
 .need (pre120 y4) <|
 .ite ((fn120 y4) == true) (
 let y5 := y3.2.1
 .need (pre121 y5) <|
 .ite ((fn121 y5) == true) (
 .need (((0 : Nat) + 2 : Nat) ≤ 2) <|
 .need (((0 : Nat) + 1 : Nat) ≤ 1) <|
 .ret (.inr ((y0, (0, ())), (((), ((), ((v63.take 1), ((-1), (2, 0))))), true)))) (
 .ret (.inl (.h28 v43 v62 v63 v64 v86 v105 v106 v107 v108 v115)))) (
 .ret (.inl (.h28 v43 v62 v63 v64 v86 v105 v106 v107 v108 v115)))) (
 .ret (.inl (.h28 v43 v62 v63 v64 v86 v105 v106 v107 v108 v115)))
 | .h28 v43 v62 v63 v64 v86 v105 v106 v107 v108 v115 =>
 .need ((0 : Int) ≤ 2) <|
 .need (2 < (3 : Int)) <|
 .need (((0 : Nat) + 2 : Nat) ≤ 2) <|
 let y0 : (List Int) := (v43.take 2)
 let y1 := x.2.2
 let y2 : ((List Int) × Int) := (y0, y1.1)
 .need (pre99 y2) <|
 .ite ((fn99 y2) == true) (
 let y3 := y1.2
 let y4 := y3.1
 .need (pre119 y4) <|
 .ite ((fn119 y4) == true) (
 let y5 := y3.2.1
 .need (pre123 y5) <|
 .ite ((fn123 y5) == true) (
 .need (((0 : Nat) + 2 : Nat) ≤ 2) <|
 .need (((0 : Nat) + 1 : Nat) ≤ 1) <|
 .ret (.inr ((y0, (0, ())), (((), ((), ((v64.take 1), (0, (1, 4))))), true)))) (
 .ret (.inl (.h29 v43 v62 v63 v64 v86 v105 v106 v107 v108 v115)))) (
 .ret (.inl (.h29 v43 v62 v63 v64 v86 v105 v106 v107 v108 v115)))) (
 .ret (.inl (.h29 v43 v62 v63 v64 v86 v105 v106 v107 v108 v115)))
 | .h29 v43 v62 v63 v64 v86 v105 v106 v107 v108 v115 =>
 .need ((0 : Int) ≤ 2) <|
 .need (2 < (3 : Int)) <|
 .need ((0 : Int) ≤ 0) <|
 .need (0 < (1 : Int)) <|
 .need (((0 : Nat) + 1 : Nat) ≤ 1) <|
 let y0 : (List Int) := (v108.take 1)
 let y1 := x.2.2
 let y2 : ((List Int) × Int) := (y0, y1.1)
 .need (pre99 y2) <|
 .ite ((fn99 y2) == true) (
 let y3 := y1.2
 let y4 := y3.1
 .need (pre120 y4) <|
 .ite ((fn120 y4) == true) (
 let y5 := y3.2.1
 .need (pre165 y5) <|
 .ite ((fn165 y5) == true) (
 .need (((0 : Nat) + 1 : Nat) ≤ 1) <|
 .need (((0 : Nat) + 1 : Nat) ≤ 1) <|
 .ret (.inr ((y0, (0, ())), (((), ((), ((v115.take 1), (0, (3, 8))))), true)))) (
 .ret (.inl (.h30 v108 v115 v86 v105 v106 v107 v43 v62 v63 v64)))) (
 .ret (.inl (.h30 v108 v115 v86 v105 v106 v107 v43 v62 v63 v64)))) (
 .ret (.inl (.h30 v108 v115 v86 v105 v106 v107 v43 v62 v63 v64)))
 | .h30 v43 v50 v72 v91 v92 v93 v94 v113 v114 v115 =>
 .ret (.inl (.h17))
noncomputable def cREF1_0 (x : DI) : AObj := .cell true 25 (.agg [1, 1, 1, 8, 8, 1, 1] [(.int .u8 x.1), (.int .u8 x.2.1), (.int .i64 x.2.2.1), (.agg [1, 1, 1, 1, 1, 1, 1, 1] [(.int .u8 x.2.2.2.1.1), (.int .i64 x.2.2.2.1.2.1), (.int .i64 x.2.2.2.1.2.2.1), (.int .i64 x.2.2.2.1.2.2.2.1), (.int .i64 x.2.2.2.1.2.2.2.2.1), (.int .i64 x.2.2.2.1.2.2.2.2.2.1), (.bool x.2.2.2.1.2.2.2.2.2.2.1), (.int .i64 x.2.2.2.1.2.2.2.2.2.2.2)]), (.agg [1, 1, 1, 1, 1, 1, 1, 1] [(.int .u8 x.2.2.2.2.1.1), (.int .i64 x.2.2.2.2.1.2.1), (.int .i64 x.2.2.2.2.1.2.2.1), (.int .i64 x.2.2.2.2.1.2.2.2.1), (.int .i64 x.2.2.2.2.1.2.2.2.2.1), (.int .i64 x.2.2.2.2.1.2.2.2.2.2.1), (.bool x.2.2.2.2.1.2.2.2.2.2.2.1), (.int .i64 x.2.2.2.2.1.2.2.2.2.2.2.2)]), (.int .u8 x.2.2.2.2.2.1), (.int .i64 x.2.2.2.2.2.2)])
noncomputable def cREF1_1 : AObj := .cell true 63 (.agg [6, 6, 6] [(.agg [1, 1, 1, 1, 1, 1] [(.fn 119 []), (.fn 120 []), (.osl 10 [] 1 0 1 (some 1)), (.int .i64 (-1)), (.int .i64 1), (.int .i64 0)]), (.agg [1, 1, 1, 1, 1, 1] [(.fn 120 []), (.fn 121 []), (.osl 11 [] 1 0 1 (some 1)), (.int .i64 (-1)), (.int .i64 2), (.int .i64 0)]), (.agg [1, 1, 1, 1, 1, 1] [(.fn 119 []), (.fn 122 []), (.osl 12 [] 1 0 1 (some 1)), (.int .i64 0), (.int .i64 1), (.int .i64 1)])])
noncomputable def cREF1_2 : AObj := .cell true 63 (.agg [6, 6, 6] [(.agg [1, 1, 1, 1, 1, 1] [(.fn 119 []), (.fn 120 []), (.osl 16 [] 1 0 1 (some 1)), (.int .i64 (-1)), (.int .i64 1), (.int .i64 0)]), (.agg [1, 1, 1, 1, 1, 1] [(.fn 120 []), (.fn 121 []), (.osl 17 [] 1 0 1 (some 1)), (.int .i64 (-1)), (.int .i64 2), (.int .i64 0)]), (.agg [1, 1, 1, 1, 1, 1] [(.fn 119 []), (.fn 123 []), (.osl 18 [] 1 0 1 (some 1)), (.int .i64 0), (.int .i64 1), (.int .i64 4)])])
noncomputable def cREF1_3 : AObj := .cell true 63 (.agg [6, 6, 6] [(.agg [1, 1, 1, 1, 1, 1] [(.fn 119 []), (.fn 120 []), (.osl 10 [] 1 0 1 (some 1)), (.int .i64 (-1)), (.int .i64 1), (.int .i64 0)]), (.agg [1, 1, 1, 1, 1, 1] [(.fn 120 []), (.fn 121 []), (.osl 11 [] 1 0 1 (some 1)), (.int .i64 (-1)), (.int .i64 2), (.int .i64 0)]), (.agg [1, 1, 1, 1, 1, 1] [(.fn 119 []), (.fn 123 []), (.osl 12 [] 1 0 1 (some 1)), (.int .i64 0), (.int .i64 1), (.int .i64 4)])])
noncomputable def cREF1_4 : AObj := .cell true 63 (.agg [6, 6, 6] [(.agg [1, 1, 1, 1, 1, 1] [(.fn 119 []), (.fn 120 []), (.osl 16 [] 1 0 1 (some 1)), (.int .i64 (-1)), (.int .i64 1), (.int .i64 0)]), (.agg [1, 1, 1, 1, 1, 1] [(.fn 120 []), (.fn 121 []), (.osl 17 [] 1 0 1 (some 1)), (.int .i64 (-1)), (.int .i64 2), (.int .i64 0)]), (.agg [1, 1, 1, 1, 1, 1] [(.fn 119 []), (.fn 122 []), (.osl 18 [] 1 0 1 (some 1)), (.int .i64 0), (.int .i64 1), (.int .i64 1)])])
noncomputable def cREF1_5 : AObj := .cell true 59 (.agg [3, 3, 3] [(.agg [1, 1, 1] [(.osl 8 [] 1 0 1 (some 1)), (.int .u8 0), (.osl 9 [] 6 0 3 (some 3))]), (.agg [1, 1, 1] [(.osl 14 [] 1 0 2 (some 2)), (.int .u8 0), (.osl 15 [] 6 0 3 (some 3))]), (.agg [1, 1, 1] [(.osl 19 [] 1 0 1 (some 1)), (.int .u8 0), (.osl 20 [] 6 0 1 (some 1))])])
noncomputable def cREF1_6 : AObj := .cell true 59 (.agg [3, 3, 3] [(.agg [1, 1, 1] [(.osl 14 [] 1 0 1 (some 1)), (.int .u8 0), (.osl 15 [] 6 0 3 (some 3))]), (.agg [1, 1, 1] [(.osl 8 [] 1 0 2 (some 2)), (.int .u8 0), (.osl 9 [] 6 0 3 (some 3))]), (.agg [1, 1, 1] [(.osl 19 [] 1 0 1 (some 1)), (.int .u8 0), (.osl 20 [] 6 0 1 (some 1))])])
noncomputable def cREF1_7 : AObj := .cell true 63 (.agg [6, 6] [(.agg [1, 1, 1, 1, 1, 1] [(.fn 126 []), (.fn 127 []), (.osl 10 [] 1 0 2 (some 2)), (.int .i64 (-1)), (.int .i64 2), (.int .i64 0)]), (.agg [1, 1, 1, 1, 1, 1] [(.fn 121 []), (.fn 126 []), (.osl 11 [] 1 0 2 (some 2)), (.int .i64 (-1)), (.int .i64 1), (.int .i64 0)])])
noncomputable def cREF1_8 : AObj := .cell true 63 (.agg [6, 6] [(.agg [1, 1, 1, 1, 1, 1] [(.fn 119 []), (.fn 120 []), (.osl 10 [] 1 0 1 (some 1)), (.int .i64 (-1)), (.int .i64 1), (.int .i64 0)]), (.agg [1, 1, 1, 1, 1, 1] [(.fn 119 []), (.fn 123 []), (.osl 11 [] 1 0 1 (some 1)), (.int .i64 0), (.int .i64 1), (.int .i64 4)])])
noncomputable def cREF1_9 : AObj := .cell true 63 (.agg [6, 6] [(.agg [1, 1, 1, 1, 1, 1] [(.fn 144 []), (.fn 123 []), (.osl 10 [] 1 0 1 (some 1)), (.int .i64 0), (.int .i64 0), (.int .i64 4)]), (.agg [1, 1, 1, 1, 1, 1] [(.fn 119 []), (.fn 144 []), (.osl 11 [] 1 0 1 (some 1)), (.int .i64 4), (.int .i64 1), (.int .i64 0)])])
noncomputable def cREF1_10 : List It := [.code (subc [1, 0, 0, 1, 1, 0, 0, 1, 1, 0, 0, 1, 1, 1] (bodyOf Tryd.f97)), .lp (subc [1, 0, 0, 1, 1, 0, 0, 1, 1, 0, 0] (bodyOf Tryd.f97)), .blk 2, .blk 1, .code (subc [1, 0, 0, 1, 1, 1] (bodyOf Tryd.f97)), .lp (subc [1, 0, 0] (bodyOf Tryd.f97)), .blk 0]
noncomputable def cREF1_11 : AObj := .loop .ready none 36 ([.any, .any, (.ptr 1 []), (.ptr 2 []), (.ptr 3 [])] ++ List.replicate 48 .any) [47, 48] (subc [1, 1, 1, 0, 1, 0, 0] (bodyOf Tryd.f36)) (subc [1, 1, 1, 0, 1, 0, 1] (bodyOf Tryd.f36)) 5
noncomputable def cREF1_12 : AObj := .cell true 63 (.agg [6] [(.agg [1, 1, 1, 1, 1, 1] [(.fn 120 []), (.fn 165 []), (.osl 21 [] 1 0 1 (some 1)), (.int .i64 0), (.int .i64 3), (.int .i64 8)])])
noncomputable def cREF1_13 : AObj := .cell true 63 (.agg [1, 1, 1, 1, 1, 1] [(.raw .nilFunc), (.raw .nilFunc), (.raw (.slice none 0 0)), (.int .i64 0), (.int .i64 0), (.int .i64 0)])
noncomputable def cREF1_14 : AObj := .cell true 59 (.agg [3] [(.agg [1, 1, 1] [(.osl 8 [] 1 0 2 (some 2)), (.int .u8 0), (.osl 9 [] 6 0 4 (some 4))])])
noncomputable def cREF1_15 : AObj := .cell true 59 (.agg [3] [(.agg [1, 1, 1] [(.osl 8 [] 1 0 2 (some 2)), (.int .u8 0), (.osl 9 [] 6 0 1 (some 1))])])
noncomputable def cREF1_16 : AObj := .cell true 59 (.agg [3] [(.agg [1, 1, 1] [(.osl 8 [] 1 0 2 (some 2)), (.int .u8 0), (.osl 9 [] 6 0 2 (some 2))])])
noncomputable def cREF1_17 : AObj := .cell true 59 (.agg [1, 1, 1] [(.osl 8 [] 1 0 2 (some 2)), (.int .u8 0), (.osl 9 [] 6 0 4 (some 4))])
noncomputable def cREF1_18 : AObj := .cell true 59 (.agg [1, 1, 1] [(.osl 8 [] 1 0 1 (some 1)), (.int .u8 0), (.osl 9 [] 6 0 3 (some 3))])
noncomputable def cREF1_19 : AObj := .cell true 59 (.agg [1, 1, 1] [(.osl 8 [] 1 0 2 (some 2)), (.int .u8 0), (.osl 9 [] 6 0 1 (some 1))])
noncomputable def cREF1_20 : AObj := .cell true 59 (.agg [1, 1, 1] [(.osl 8 [] 1 0 2 (some 2)), (.int .u8 0), (.osl 9 [] 6 0 2 (some 2))])
noncomputable def cREF1_21 : AObj := .cell true 59 (.agg [1, 1, 1] [(.osl 8 [] 1 0 2 (some 2)), (.int .u8 0), (.osl 9 [] 6 0 3 (some 3))])
noncomputable def cREF1_22 : AObj := .cell true 59 (.agg [1, 1, 1] [(.raw (.slice none 0 0)), (.int .u8 0), (.raw (.slice none 0 0))])
noncomputable def cREF1_23 : List It := [.fin 6, .blk 0, .code (subc [1, 1, 1, 1] (bodyOf Tryd.f36))]
noncomputable def head36 (x : DI) : J36 → Head
 | .h0 =>
 { fr := { id := 36, kind := .top, T := [.any, (.ptr 0 []), (.ptr 1 []), (.ptr 2 []), (.ptr 3 [])] ++ List.replicate 48 .any, items := [.code (subc [1, 1, 1, 0, 0] (bodyOf Tryd.f36)), .code (subc [1, 1, 1, 0, 1] (bodyOf Tryd.f36)), .code (subc [1, 1, 1, 1] (bodyOf Tryd.f36))], D := [], base := 0 },
   stk := [],
   H := [(cREF1_0 x), cREF1_22, cREF1_13, .cell true 4 (.bool false)] }
 | .h1 v43 v59 v65 v68 v69 v70 v71 =>
 { fr := { id := 97, kind := (.iter 6), T := [(.yld 6), (.ptr 4 []), .any, .any, (.ptr 7 [])] ++ List.replicate 7 .any ++ [(.osl 14 [] 3 0 1 (some 1)), (.int .i64 1), (.int .i64 0)] ++ List.replicate 4 .any ++ [(.osl 9 [] 6 0 4 (some 4)), (.int .i64 4), (.int .i64 0)] ++ List.replicate 31 .any, items := cREF1_10, D := [], base := 7 },
   stk := [{ id := 36, kind := .top, T := [.any, .any, (.ptr 1 []), (.ptr 2 []), (.ptr 3 [])] ++ List.replicate 48 .any, items := cREF1_23, D := [5], base := 0 }],
   H := [.dead, cREF1_22, cREF1_13, .cell true 4 (.bool false), (cREF1_0 x), .dfd, cREF1_11, cREF1_17, .cell true 3 (.arr 2 (.int .i64) v43), .cell true 63 (.agg [6, 6, 6, 6] [(.agg [1, 1, 1, 1, 1, 1] [(.fn 119 []), (.fn 120 []), (.osl 10 [] 1 0 1 (some 1)), (.int .i64 (-1)), (.int .i64 1), (.int .i64 0)]), (.agg [1, 1, 1, 1, 1, 1] [(.fn 120 []), (.fn 121 []), (.osl 11 [] 1 0 1 (some 1)), (.int .i64 (-1)), (.int .i64 2), (.int .i64 0)]), (.agg [1, 1, 1, 1, 1, 1] [(.fn 119 []), (.fn 122 []), (.osl 12 [] 1 0 1 (some 1)), (.int .i64 v59), (.int .i64 1), (.int .i64 1)]), (.agg [1, 1, 1, 1, 1, 1] [(.fn 119 []), (.fn 123 []), (.osl 13 [] 1 0 1 (some 1)), (.int .i64 v65), (.int .i64 1), (.int .i64 4)])]), .cell true 5 (.arr 1 (.int .u8) v68), .cell true 5 (.arr 1 (.int .u8) v69), .cell true 5 (.arr 1 (.int .u8) v70), .cell true 5 (.arr 1 (.int .u8) v71), cREF1_14] }
 | .h2 v43 v62 v63 v64 v86 v105 v106 v107 v108 v115 =>
 { fr := { id := 97, kind := (.iter 6), T := [(.yld 6), (.ptr 4 []), .any, .any, (.ptr 7 [])] ++ List.replicate 7 .any ++ [(.osl 13 [] 3 0 3 (some 3)), (.int .i64 3), (.int .i64 0)] ++ List.replicate 4 .any ++ [(.osl 9 [] 6 0 3 (some 3)), (.int .i64 3), (.int .i64 0)] ++ List.replicate 31 .any, items := cREF1_10, D := [], base := 7 },
   stk := [{ id := 36, kind := .top, T := [.any, .any, (.ptr 1 []), (.ptr 2 []), (.ptr 3 [])] ++ List.replicate 48 .any, items := cREF1_23, D := [5], base := 0 }],
   H := [.dead, cREF1_22, cREF1_13, .cell true 4 (.bool false), (cREF1_0 x), .dfd, cREF1_11, cREF1_18, .cell true 3 (.arr 1 (.int .i64) v43), cREF1_1, .cell true 5 (.arr 1 (.int .u8) v62), .cell true 5 (.arr 1 (.int .u8) v63), .cell true 5 (.arr 1 (.int .u8) v64), cREF1_5, .cell true 3 (.arr 2 (.int .i64) v86), cREF1_2, .cell true 5 (.arr 1 (.int .u8) v105), .cell true 5 (.arr 1 (.int .u8) v106), .cell true 5 (.arr 1 (.int .u8) v107), .cell true 3 (.arr 1 (.int .i64) v108), cREF1_12, .cell true 5 (.arr 1 (.int .u8) v115)] }
 | .h3 v43 v50 =>
 { fr := { id := 97, kind := (.iter 6), T := [(.yld 6), (.ptr 4 []), .any, .any, (.ptr 7 [])] ++ List.replicate 7 .any ++ [(.osl 11 [] 3 0 1 (some 1)), (.int .i64 1), (.int .i64 0)] ++ List.replicate 4 .any ++ [(.osl 9 [] 6 0 1 (some 1)), (.int .i64 1), (.int .i64 0)] ++ List.replicate 31 .any, items := cREF1_10, D := [], base := 7 },
   stk := [{ id := 36, kind := .top, T := [.any, .any, (.ptr 1 []), (.ptr 2 []), (.ptr 3 [])] ++ List.replicate 48 .any, items := cREF1_23, D := [5], base := 0 }],
   H := [.dead, cREF1_22, cREF1_13, .cell true 4 (.bool false), (cREF1_0 x), .dfd, cREF1_11, cREF1_19, .cell true 3 (.arr 2 (.int .i64) v43), .cell true 63 (.agg [6] [(.agg [1, 1, 1, 1, 1, 1] [(.fn 120 []), (.fn 121 []), (.osl 10 [] 1 0 1 (some 1)), (.int .i64 (-1)), (.int .i64 2), (.int .i64 0)])]), .cell true 5 (.arr 1 (.int .u8) v50), cREF1_15] }
 | .h4 v43 v56 v57 =>
 { fr := { id := 97, kind := (.iter 6), T := [(.yld 6), (.ptr 4 []), .any, .any, (.ptr 7 [])] ++ List.replicate 7 .any ++ [(.osl 12 [] 3 0 1 (some 1)), (.int .i64 1), (.int .i64 0)] ++ List.replicate 4 .any ++ [(.osl 9 [] 6 0 2 (some 2)), (.int .i64 2), (.int .i64 0)] ++ List.replicate 31 .any, items := cREF1_10, D := [], base := 7 },
   stk := [{ id := 36, kind := .top, T := [.any, .any, (.ptr 1 []), (.ptr 2 []), (.ptr 3 [])] ++ List.replicate 48 .any, items := cREF1_23, D := [5], base := 0 }],
   H := [.dead, cREF1_22, cREF1_13, .cell true 4 (.bool false), (cREF1_0 x), .dfd, cREF1_11, cREF1_20, .cell true 3 (.arr 2 (.int .i64) v43), cREF1_8, .cell true 5 (.arr 1 (.int .u8) v56), .cell true 5 (.arr 1 (.int .u8) v57), cREF1_16] }
 | .h5 v43 v47 v50 =>
 { fr := { id := 97, kind := (.iter 6), T := [(.yld 6), (.ptr 4 []), .any, .any, (.ptr 7 [])] ++ List.replicate 7 .any ++ [(.osl 11 [] 3 0 1 (some 1)), (.int .i64 1), (.int .i64 0)] ++ List.replicate 4 .any ++ [(.osl 9 [] 6 0 1 (some 1)), (.int .i64 1), (.int .i64 0)] ++ List.replicate 31 .any, items := cREF1_10, D := [], base := 7 },
   stk := [{ id := 36, kind := .top, T := [.any, .any, (.ptr 1 []), (.ptr 2 []), (.ptr 3 [])] ++ List.replicate 48 .any, items := cREF1_23, D := [5], base := 0 }],
   H := [.dead, cREF1_22, cREF1_13, .cell true 4 (.bool false), (cREF1_0 x), .dfd, cREF1_11, cREF1_19, .cell true 3 (.arr 2 (.int .i64) v43), .cell true 63 (.agg [6] [(.agg [1, 1, 1, 1, 1, 1] [(.fn 119 []), (.fn 144 []), (.osl 10 [] 1 0 1 (some 1)), (.int .i64 v47), (.int .i64 1), (.int .i64 0)])]), .cell true 5 (.arr 1 (.int .u8) v50), cREF1_15] }
 | .h6 v43 v47 v53 v56 v57 =>
 { fr := { id := 97, kind := (.iter 6), T := [(.yld 6), (.ptr 4 []), .any, .any, (.ptr 7 [])] ++ List.replicate 7 .any ++ [(.osl 12 [] 3 0 1 (some 1)), (.int .i64 1), (.int .i64 0)] ++ List.replicate 4 .any ++ [(.osl 9 [] 6 0 2 (some 2)), (.int .i64 2), (.int .i64 0)] ++ List.replicate 31 .any, items := cREF1_10, D := [], base := 7 },
   stk := [{ id := 36, kind := .top, T := [.any, .any, (.ptr 1 []), (.ptr 2 []), (.ptr 3 [])] ++ List.replicate 48 .any, items := cREF1_23, D := [5], base := 0 }],
   H := [.dead, cREF1_22, cREF1_13, .cell true 4 (.bool false), (cREF1_0 x), .dfd, cREF1_11, cREF1_20, .cell true 3 (.arr 2 (.int .i64) v43), .cell true 63 (.agg [6, 6] [(.agg [1, 1, 1, 1, 1, 1] [(.fn 119 []), (.fn 129 []), (.osl 10 [] 1 0 1 (some 1)), (.int .i64 v47), (.int .i64 1), (.int .i64 1)]), (.agg [1, 1, 1, 1, 1, 1] [(.fn 119 []), (.fn 130 []), (.osl 11 [] 1 0 1 (some 1)), (.int .i64 v53), (.int .i64 1), (.int .i64 0)])]), .cell true 5 (.arr 1 (.int .u8) v56), .cell true 5 (.arr 1 (.int .u8) v57), cREF1_16] }
 | .h7 v43 v50 =>
 { fr := { id := 97, kind := (.iter 6), T := [(.yld 6), (.ptr 4 []), .any, .any, (.ptr 7 [])] ++ List.replicate 7 .any ++ [(.osl 11 [] 3 0 1 (some 1)), (.int .i64 1), (.int .i64 0)] ++ List.replicate 4 .any ++ [(.osl 9 [] 6 0 1 (some 1)), (.int .i64 1), (.int .i64 0)] ++ List.replicate 31 .any, items := cREF1_10, D := [], base := 7 },
   stk := [{ id := 36, kind := .top, T := [.any, .any, (.ptr 1 []), (.ptr 2 []), (.ptr 3 [])] ++ List.replicate 48 .any, items := cREF1_23, D := [5], base := 0 }],
   H := [.dead, cREF1_22, cREF1_13, .cell true 4 (.bool false), (cREF1_0 x), .dfd, cREF1_11, cREF1_19, .cell true 3 (.arr 2 (.int .i64) v43), .cell true 63 (.agg [6] [(.agg [1, 1, 1, 1, 1, 1] [(.fn 120 []), (.fn 119 []), (.osl 10 [] 1 0 2 (some 2)), (.int .i64 (-1)), (.int .i64 2), (.int .i64 0)])]), .cell true 5 (.arr 2 (.int .u8) v50), cREF1_15] }
 | .h8 v43 v50 =>
 { fr := { id := 97, kind := (.iter 6), T := [(.yld 6), (.ptr 4 []), .any, .any, (.ptr 7 [])] ++ List.replicate 7 .any ++ [(.osl 11 [] 3 0 1 (some 1)), (.int .i64 1), (.int .i64 0)] ++ List.replicate 4 .any ++ [(.osl 9 [] 6 0 1 (some 1)), (.int .i64 1), (.int .i64 0)] ++ List.replicate 31 .any, items := cREF1_10, D := [], base := 7 },
   stk := [{ id := 36, kind := .top, T := [.any, .any, (.ptr 1 []), (.ptr 2 []), (.ptr 3 [])] ++ List.replicate 48 .any, items := cREF1_23, D := [5], base := 0 }],
   H := [.dead, cREF1_22, cREF1_13, .cell true 4 (.bool false), (cREF1_0 x), .dfd, cREF1_11, .cell true 59 (.agg [1, 1, 1] [(.osl 8 [] 1 0 1 (some 1)), (.int .u8 0), (.osl 9 [] 6 0 1 (some 1))]), .cell true 3 (.arr 1 (.int .i64) v43), .cell true 63 (.agg [6] [(.agg [1, 1, 1, 1, 1, 1] [(.fn 119 []), (.fn 144 []), (.osl 10 [] 1 0 2 (some 2)), (.int .i64 0), (.int .i64 1), (.int .i64 0)])]), .cell true 5 (.arr 2 (.int .u8) v50), .cell true 59 (.agg [3] [(.agg [1, 1, 1] [(.osl 8 [] 1 0 1 (some 1)), (.int .u8 0), (.osl 9 [] 6 0 1 (some 1))])])] }
 | .h9 v43 v56 v57 =>
 { fr := { id := 97, kind := (.iter 6), T := [(.yld 6), (.ptr 4 []), .any, .any, (.ptr 7 [])] ++ List.replicate 7 .any ++ [(.osl 12 [] 3 0 1 (some 1)), (.int .i64 1), (.int .i64 0)] ++ List.replicate 4 .any ++ [(.osl 9 [] 6 0 2 (some 2)), (.int .i64 2), (.int .i64 0)] ++ List.replicate 31 .any, items := cREF1_10, D := [], base := 7 },
   stk := [{ id := 36, kind := .top, T := [.any, .any, (.ptr 1 []), (.ptr 2 []), (.ptr 3 [])] ++ List.replicate 48 .any, items := cREF1_23, D := [5], base := 0 }],
   H := [.dead, cREF1_22, cREF1_13, .cell true 4 (.bool false), (cREF1_0 x), .dfd, cREF1_11, .cell true 59 (.agg [1, 1, 1] [(.osl 8 [] 1 0 1 (some 1)), (.int .u8 243), (.osl 9 [] 6 0 2 (some 2))]), .cell true 3 (.arr 1 (.int .i64) v43), cREF1_7, .cell true 5 (.arr 2 (.int .u8) v56), .cell true 5 (.arr 2 (.int .u8) v57), .cell true 59 (.agg [3] [(.agg [1, 1, 1] [(.osl 8 [] 1 0 1 (some 1)), (.int .u8 243), (.osl 9 [] 6 0 2 (some 2))])])] }
 | .h10 v43 v50 =>
 { fr := { id := 97, kind := (.iter 6), T := [(.yld 6), (.ptr 4 []), .any, .any, (.ptr 7 [])] ++ List.replicate 7 .any ++ [(.osl 11 [] 3 0 1 (some 1)), (.int .i64 1), (.int .i64 0)] ++ List.replicate 4 .any ++ [(.osl 9 [] 6 0 1 (some 1)), (.int .i64 1), (.int .i64 0)] ++ List.replicate 31 .any, items := cREF1_10, D := [], base := 7 },
   stk := [{ id := 36, kind := .top, T := [.any, .any, (.ptr 1 []), (.ptr 2 []), (.ptr 3 [])] ++ List.replicate 48 .any, items := cREF1_23, D := [5], base := 0 }],
   H := [.dead, cREF1_22, cREF1_13, .cell true 4 (.bool false), (cREF1_0 x), .dfd, cREF1_11, .cell true 59 (.agg [1, 1, 1] [(.osl 8 [] 1 0 1 (some 1)), (.int .u8 102), (.osl 9 [] 6 0 1 (some 1))]), .cell true 3 (.arr 1 (.int .i64) v43), .cell true 63 (.agg [6] [(.agg [1, 1, 1, 1, 1, 1] [(.fn 126 []), (.fn 127 []), (.osl 10 [] 1 0 2 (some 2)), (.int .i64 (-1)), (.int .i64 2), (.int .i64 0)])]), .cell true 5 (.arr 2 (.int .u8) v50), .cell true 59 (.agg [3] [(.agg [1, 1, 1] [(.osl 8 [] 1 0 1 (some 1)), (.int .u8 102), (.osl 9 [] 6 0 1 (some 1))])])] }
 | .h11 v43 v49 v50 =>
 { fr := { id := 97, kind := (.iter 6), T := [(.yld 6), (.ptr 4 []), .any, .any, (.ptr 7 [])] ++ List.replicate 7 .any ++ [(.osl 11 [] 3 0 1 (some 1)), (.int .i64 1), (.int .i64 0)] ++ List.replicate 4 .any ++ [(.osl 9 [] 6 0 1 (some 1)), (.int .i64 1), (.int .i64 0)] ++ List.replicate 31 .any, items := cREF1_10, D := [], base := 7 },
   stk := [{ id := 36, kind := .top, T := [.any, .any, (.ptr 1 []), (.ptr 2 []), (.ptr 3 [])] ++ List.replicate 48 .any, items := cREF1_23, D := [5], base := 0 }],
   H := [.dead, cREF1_22, cREF1_13, .cell true 4 (.bool false), (cREF1_0 x), .dfd, cREF1_11, .cell true 59 (.agg [1, 1, 1] [(.osl 8 [] 1 0 1 (some 1)), (.int .u8 102), (.osl 9 [] 6 0 1 (some 1))]), .cell true 3 (.arr 1 (.int .i64) v43), .cell true 63 (.agg [6] [(.agg [1, 1, 1, 1, 1, 1] [(.fn 126 []), (.fn 127 []), (.osl 10 [] 1 0 3 (some 3)), (.int .i64 (-1)), (.int .i64 2), (.int .i64 v49)])]), .cell true 5 (.arr 3 (.int .u8) v50), .cell true 59 (.agg [3] [(.agg [1, 1, 1] [(.osl 8 [] 1 0 1 (some 1)), (.int .u8 102), (.osl 9 [] 6 0 1 (some 1))])])] }
 | .h12 v43 v50 =>
 { fr := { id := 97, kind := (.iter 6), T := [(.yld 6), (.ptr 4 []), .any, .any, (.ptr 7 [])] ++ List.replicate 7 .any ++ [(.osl 11 [] 3 0 1 (some 1)), (.int .i64 1), (.int .i64 0)] ++ List.replicate 4 .any ++ [(.osl 9 [] 6 0 1 (some 1)), (.int .i64 1), (.int .i64 0)] ++ List.replicate 31 .any, items := cREF1_10, D := [], base := 7 },
   stk := [{ id := 36, kind := .top, T := [.any, .any, (.ptr 1 []), (.ptr 2 []), (.ptr 3 [])] ++ List.replicate 48 .any, items := cREF1_23, D := [5], base := 0 }],
   H := [.dead, cREF1_22, cREF1_13, .cell true 4 (.bool false), (cREF1_0 x), .dfd, cREF1_11, cREF1_19, .cell true 3 (.arr 2 (.int .i64) v43), .cell true 63 (.agg [6] [(.agg [1, 1, 1, 1, 1, 1] [(.fn 144 []), (.fn 123 []), (.osl 10 [] 1 0 1 (some 1)), (.int .i64 0), (.int .i64 0), (.int .i64 4)])]), .cell true 5 (.arr 1 (.int .u8) v50), cREF1_15] }
 | .h13 v43 v56 v57 =>
 { fr := { id := 97, kind := (.iter 6), T := [(.yld 6), (.ptr 4 []), .any, .any, (.ptr 7 [])] ++ List.replicate 7 .any ++ [(.osl 12 [] 3 0 1 (some 1)), (.int .i64 1), (.int .i64 0)] ++ List.replicate 4 .any ++ [(.osl 9 [] 6 0 2 (some 2)), (.int .i64 2), (.int .i64 0)] ++ List.replicate 31 .any, items := cREF1_10, D := [], base := 7 },
   stk := [{ id := 36, kind := .top, T := [.any, .any, (.ptr 1 []), (.ptr 2 []), (.ptr 3 [])] ++ List.replicate 48 .any, items := cREF1_23, D := [5], base := 0 }],
   H := [.dead, cREF1_22, cREF1_13, .cell true 4 (.bool false), (cREF1_0 x), .dfd, cREF1_11, cREF1_20, .cell true 3 (.arr 2 (.int .i64) v43), cREF1_9, .cell true 5 (.arr 1 (.int .u8) v56), .cell true 5 (.arr 1 (.int .u8) v57), cREF1_16] }
 | .h14 v43 v50 =>
 { fr := { id := 97, kind := (.iter 6), T := [(.yld 6), (.ptr 4 []), .any, .any, (.ptr 7 [])] ++ List.replicate 7 .any ++ [(.osl 11 [] 3 0 1 (some 1)), (.int .i64 1), (.int .i64 0)] ++ List.replicate 4 .any ++ [(.osl 9 [] 6 0 1 (some 1)), (.int .i64 1), (.int .i64 0)] ++ List.replicate 31 .any, items := cREF1_10, D := [], base := 7 },
   stk := [{ id := 36, kind := .top, T := [.any, .any, (.ptr 1 []), (.ptr 2 []), (.ptr 3 [])] ++ List.replicate 48 .any, items := cREF1_23, D := [5], base := 0 }],
   H := [.dead, cREF1_22, cREF1_13, .cell true 4 (.bool false), (cREF1_0 x), .dfd, cREF1_11, cREF1_19, .cell true 3 (.arr 2 (.int .i64) v43), .cell true 63 (.agg [6] [(.agg [1, 1, 1, 1, 1, 1] [(.fn 144 []), (.fn 123 []), (.osl 10 [] 1 0 2 (some 2)), (.int .i64 0), (.int .i64 0), (.int .i64 4)])]), .cell true 5 (.arr 2 (.int .u8) v50), cREF1_15] }
 | .h15 v43 v50 =>
 { fr := { id := 97, kind := (.iter 6), T := [(.yld 6), (.ptr 4 []), .any, .any, (.ptr 7 [])] ++ List.replicate 7 .any ++ [(.osl 11 [] 3 0 1 (some 1)), (.int .i64 1), (.int .i64 0)] ++ List.replicate 4 .any ++ [(.osl 9 [] 6 0 1 (some 1)), (.int .i64 1), (.int .i64 0)] ++ List.replicate 31 .any, items := cREF1_10, D := [], base := 7 },
   stk := [{ id := 36, kind := .top, T := [.any, .any, (.ptr 1 []), (.ptr 2 []), (.ptr 3 [])] ++ List.replicate 48 .any, items := cREF1_23, D := [5], base := 0 }],
   H := [.dead, cREF1_22, cREF1_13, .cell true 4 (.bool false), (cREF1_0 x), .dfd, cREF1_11, cREF1_19, .cell true 3 (.arr 2 (.int .i64) v43), .cell true 63 (.agg [6] [(.agg [1, 1, 1, 1, 1, 1] [(.fn 144 []), (.fn 144 []), (.osl 10 [] 1 0 1 (some 1)), (.int .i64 0), (.int .i64 0), (.int .i64 0)])]), .cell true 5 (.arr 1 (.int .u8) v50), cREF1_15] }
 | .h16 v43 v50 =>
 { fr := { id := 97, kind := (.iter 6), T := [(.yld 6), (.ptr 4 []), .any, .any, (.ptr 7 [])] ++ List.replicate 7 .any ++ [(.osl 11 [] 3 0 1 (some 1)), (.int .i64 1), (.int .i64 0)] ++ List.replicate 4 .any ++ [(.osl 9 [] 6 0 1 (some 1)), (.int .i64 1), (.int .i64 0)] ++ List.replicate 31 .any, items := cREF1_10, D := [], base := 7 },
   stk := [{ id := 36, kind := .top, T := [.any, .any, (.ptr 1 []), (.ptr 2 []), (.ptr 3 [])] ++ List.replicate 48 .any, items := cREF1_23, D := [5], base := 0 }],
   H := [.dead, cREF1_22, cREF1_13, .cell true 4 (.bool false), (cREF1_0 x), .dfd, cREF1_11, cREF1_19, .cell true 3 (.arr 2 (.int .i64) v43), .cell true 63 (.agg [6] [(.agg [1, 1, 1, 1, 1, 1] [(.fn 120 []), (.fn 144 []), (.osl 10 [] 1 0 1 (some 1)), (.int .i64 0), (.int .i64 3), (.int .i64 0)])]), .cell true 5 (.arr 1 (.int .u8) v50), cREF1_15] }
 | .h17 =>
 { fr := { id := 36, kind := .top, T := [.any, .any, (.ptr 1 []), (.ptr 2 []), (.ptr 3 [])] ++ List.replicate 48 .any, items := [.code (subc [1, 1, 1, 1, 0] (bodyOf Tryd.f36)), .code (subc [1, 1, 1, 1, 1] (bodyOf Tryd.f36))], D := [0], base := 0 },
   stk := [],
   H := [.dfd, cREF1_22, cREF1_13, .cell true 4 (.bool false)] }
 | .h18 v43 v59 v65 v68 v69 v70 v71 =>
 { fr := { id := 97, kind := (.iter 6), T := [(.yld 6), (.ptr 4 []), .any, .any, (.ptr 7 [])] ++ List.replicate 7 .any ++ [(.osl 14 [] 3 0 1 (some 1)), (.int .i64 1), (.int .i64 0)] ++ List.replicate 4 .any ++ [(.osl 9 [] 6 0 4 (some 4)), (.int .i64 4), (.int .i64 1)] ++ List.replicate 31 .any, items := cREF1_10, D := [], base := 7 },
   stk := [{ id := 36, kind := .top, T := [.any, .any, (.ptr 1 []), (.ptr 2 []), (.ptr 3 [])] ++ List.replicate 48 .any, items := cREF1_23, D := [5], base := 0 }],
   H := [.dead, cREF1_22, cREF1_13, .cell true 4 (.bool false), (cREF1_0 x), .dfd, cREF1_11, cREF1_17, .cell true 3 (.arr 2 (.int .i64) v43), .cell true 63 (.agg [6, 6, 6, 6] [(.agg [1, 1, 1, 1, 1, 1] [(.fn 119 []), (.fn 120 []), (.osl 10 [] 1 0 1 (some 1)), (.int .i64 (-1)), (.int .i64 1), (.int .i64 0)]), (.agg [1, 1, 1, 1, 1, 1] [(.fn 120 []), (.fn 121 []), (.osl 11 [] 1 0 1 (some 1)), (.int .i64 (-1)), (.int .i64 2), (.int .i64 0)]), (.agg [1, 1, 1, 1, 1, 1] [(.fn 119 []), (.fn 122 []), (.osl 12 [] 1 0 1 (some 1)), (.int .i64 v59), (.int .i64 1), (.int .i64 1)]), (.agg [1, 1, 1, 1, 1, 1] [(.fn 119 []), (.fn 123 []), (.osl 13 [] 1 0 1 (some 1)), (.int .i64 v65), (.int .i64 1), (.int .i64 4)])]), .cell true 5 (.arr 1 (.int .u8) v68), .cell true 5 (.arr 1 (.int .u8) v69), .cell true 5 (.arr 1 (.int .u8) v70), .cell true 5 (.arr 1 (.int .u8) v71), cREF1_14] }
 | .h19 v43 v62 v63 v64 v86 v105 v106 v107 v108 v115 =>
 { fr := { id := 97, kind := (.iter 6), T := [(.yld 6), (.ptr 4 []), .any, .any, (.ptr 7 [])] ++ List.replicate 7 .any ++ [(.osl 13 [] 3 0 3 (some 3)), (.int .i64 3), (.int .i64 0)] ++ List.replicate 4 .any ++ [(.osl 9 [] 6 0 3 (some 3)), (.int .i64 3), (.int .i64 1)] ++ List.replicate 31 .any, items := cREF1_10, D := [], base := 7 },
   stk := [{ id := 36, kind := .top, T := [.any, .any, (.ptr 1 []), (.ptr 2 []), (.ptr 3 [])] ++ List.replicate 48 .any, items := cREF1_23, D := [5], base := 0 }],
   H := [.dead, cREF1_22, cREF1_13, .cell true 4 (.bool false), (cREF1_0 x), .dfd, cREF1_11, cREF1_18, .cell true 3 (.arr 1 (.int .i64) v43), cREF1_1, .cell true 5 (.arr 1 (.int .u8) v62), .cell true 5 (.arr 1 (.int .u8) v63), .cell true 5 (.arr 1 (.int .u8) v64), cREF1_5, .cell true 3 (.arr 2 (.int .i64) v86), cREF1_2, .cell true 5 (.arr 1 (.int .u8) v105), .cell true 5 (.arr 1 (.int .u8) v106), .cell true 5 (.arr 1 (.int .u8) v107), .cell true 3 (.arr 1 (.int .i64) v108), cREF1_12, .cell true 5 (.arr 1 (.int .u8) v115)] }
 | .h20 v43 v56 v57 =>
 { fr := { id := 97, kind := (.iter 6), T := [(.yld 6), (.ptr 4 []), .any, .any, (.ptr 7 [])] ++ List.replicate 7 .any ++ [(.osl 12 [] 3 0 1 (some 1)), (.int .i64 1), (.int .i64 0)] ++ List.replicate 4 .any ++ [(.osl 9 [] 6 0 2 (some 2)), (.int .i64 2), (.int .i64 1)] ++ List.replicate 31 .any, items := cREF1_10, D := [], base := 7 },
   stk := [{ id := 36, kind := .top, T := [.any, .any, (.ptr 1 []), (.ptr 2 []), (.ptr 3 [])] ++ List.replicate 48 .any, items := cREF1_23, D := [5], base := 0 }],
   H := [.dead, cREF1_22, cREF1_13, .cell true 4 (.bool false), (cREF1_0 x), .dfd, cREF1_11, cREF1_20, .cell true 3 (.arr 2 (.int .i64) v43), cREF1_8, .cell true 5 (.arr 1 (.int .u8) v56), .cell true 5 (.arr 1 (.int .u8) v57), cREF1_16] }
 | .h21 v43 v47 v53 v56 v57 =>
 { fr := { id := 97, kind := (.iter 6), T := [(.yld 6), (.ptr 4 []), .any, .any, (.ptr 7 [])] ++ List.replicate 7 .any ++ [(.osl 12 [] 3 0 1 (some 1)), (.int .i64 1), (.int .i64 0)] ++ List.replicate 4 .any ++ [(.osl 9 [] 6 0 2 (some 2)), (.int .i64 2), (.int .i64 1)] ++ List.replicate 31 .any, items := cREF1_10, D := [], base := 7 },
   stk := [{ id := 36, kind := .top, T := [.any, .any, (.ptr 1 []), (.ptr 2 []), (.ptr 3 [])] ++ List.replicate 48 .any, items := cREF1_23, D := [5], base := 0 }],
   H := [.dead, cREF1_22, cREF1_13, .cell true 4 (.bool false), (cREF1_0 x), .dfd, cREF1_11, cREF1_20, .cell true 3 (.arr 2 (.int .i64) v43), .cell true 63 (.agg [6, 6] [(.agg [1, 1, 1, 1, 1, 1] [(.fn 119 []), (.fn 129 []), (.osl 10 [] 1 0 1 (some 1)), (.int .i64 v47), (.int .i64 1), (.int .i64 1)]), (.agg [1, 1, 1, 1, 1, 1] [(.fn 119 []), (.fn 130 []), (.osl 11 [] 1 0 1 (some 1)), (.int .i64 v53), (.int .i64 1), (.int .i64 0)])]), .cell true 5 (.arr 1 (.int .u8) v56), .cell true 5 (.arr 1 (.int .u8) v57), cREF1_16] }
 | .h22 v43 v56 v57 =>
 { fr := { id := 97, kind := (.iter 6), T := [(.yld 6), (.ptr 4 []), .any, .any, (.ptr 7 [])] ++ List.replicate 7 .any ++ [(.osl 12 [] 3 0 1 (some 1)), (.int .i64 1), (.int .i64 0)] ++ List.replicate 4 .any ++ [(.osl 9 [] 6 0 2 (some 2)), (.int .i64 2), (.int .i64 1)] ++ List.replicate 31 .any, items := cREF1_10, D := [], base := 7 },
   stk := [{ id := 36, kind := .top, T := [.any, .any, (.ptr 1 []), (.ptr 2 []), (.ptr 3 [])] ++ List.replicate 48 .any, items := cREF1_23, D := [5], base := 0 }],
   H := [.dead, cREF1_22, cREF1_13, .cell true 4 (.bool false), (cREF1_0 x), .dfd, cREF1_11, .cell true 59 (.agg [1, 1, 1] [(.osl 8 [] 1 0 1 (some 1)), (.int .u8 243), (.osl 9 [] 6 0 2 (some 2))]), .cell true 3 (.arr 1 (.int .i64) v43), cREF1_7, .cell true 5 (.arr 2 (.int .u8) v56), .cell true 5 (.arr 2 (.int .u8) v57), .cell true 59 (.agg [3] [(.agg [1, 1, 1] [(.osl 8 [] 1 0 1 (some 1)), (.int .u8 243), (.osl 9 [] 6 0 2 (some 2))])])] }
 | .h23 v43 v56 v57 =>
 { fr := { id := 97, kind := (.iter 6), T := [(.yld 6), (.ptr 4 []), .any, .any, (.ptr 7 [])] ++ List.replicate 7 .any ++ [(.osl 12 [] 3 0 1 (some 1)), (.int .i64 1), (.int .i64 0)] ++ List.replicate 4 .any ++ [(.osl 9 [] 6 0 2 (some 2)), (.int .i64 2), (.int .i64 1)] ++ List.replicate 31 .any, items := cREF1_10, D := [], base := 7 },
   stk := [{ id := 36, kind := .top, T := [.any, .any, (.ptr 1 []), (.ptr 2 []), (.ptr 3 [])] ++ List.replicate 48 .any, items := cREF1_23, D := [5], base := 0 }],
   H := [.dead, cREF1_22, cREF1_13, .cell true 4 (.bool false), (cREF1_0 x), .dfd, cREF1_11, cREF1_20, .cell true 3 (.arr 2 (.int .i64) v43), cREF1_9, .cell true 5 (.arr 1 (.int .u8) v56), .cell true 5 (.arr 1 (.int .u8) v57), cREF1_16] }
 | .h24 v43 v59 v65 v68 v69 v70 v71 =>
 { fr := { id := 97, kind := (.iter 6), T := [(.yld 6), (.ptr 4 []), .any, .any, (.ptr 7 [])] ++ List.replicate 7 .any ++ [(.osl 14 [] 3 0 1 (some 1)), (.int .i64 1), (.int .i64 0)] ++ List.replicate 4 .any ++ [(.osl 9 [] 6 0 4 (some 4)), (.int .i64 4), (.int .i64 2)] ++ List.replicate 31 .any, items := cREF1_10, D := [], base := 7 },
   stk := [{ id := 36, kind := .top, T := [.any, .any, (.ptr 1 []), (.ptr 2 []), (.ptr 3 [])] ++ List.replicate 48 .any, items := cREF1_23, D := [5], base := 0 }],
   H := [.dead, cREF1_22, cREF1_13, .cell true 4 (.bool false), (cREF1_0 x), .dfd, cREF1_11, cREF1_17, .cell true 3 (.arr 2 (.int .i64) v43), .cell true 63 (.agg [6, 6, 6, 6] [(.agg [1, 1, 1, 1, 1, 1] [(.fn 119 []), (.fn 120 []), (.osl 10 [] 1 0 1 (some 1)), (.int .i64 (-1)), (.int .i64 1), (.int .i64 0)]), (.agg [1, 1, 1, 1, 1, 1] [(.fn 120 []), (.fn 121 []), (.osl 11 [] 1 0 1 (some 1)), (.int .i64 (-1)), (.int .i64 2), (.int .i64 0)]), (.agg [1, 1, 1, 1, 1, 1] [(.fn 119 []), (.fn 122 []), (.osl 12 [] 1 0 1 (some 1)), (.int .i64 v59), (.int .i64 1), (.int .i64 1)]), (.agg [1, 1, 1, 1, 1, 1] [(.fn 119 []), (.fn 123 []), (.osl 13 [] 1 0 1 (some 1)), (.int .i64 v65), (.int .i64 1), (.int .i64 4)])]), .cell true 5 (.arr 1 (.int .u8) v68), .cell true 5 (.arr 1 (.int .u8) v69), .cell true 5 (.arr 1 (.int .u8) v70), .cell true 5 (.arr 1 (.int .u8) v71), cREF1_14] }
 | .h25 v43 v62 v63 v64 v86 v105 v106 v107 v108 v115 =>
 { fr := { id := 97, kind := (.iter 6), T := [(.yld 6), (.ptr 4 []), .any, .any, (.ptr 7 [])] ++ List.replicate 7 .any ++ [(.osl 13 [] 3 0 3 (some 3)), (.int .i64 3), (.int .i64 0)] ++ List.replicate 4 .any ++ [(.osl 9 [] 6 0 3 (some 3)), (.int .i64 3), (.int .i64 2)] ++ List.replicate 31 .any, items := cREF1_10, D := [], base := 7 },
   stk := [{ id := 36, kind := .top, T := [.any, .any, (.ptr 1 []), (.ptr 2 []), (.ptr 3 [])] ++ List.replicate 48 .any, items := cREF1_23, D := [5], base := 0 }],
   H := [.dead, cREF1_22, cREF1_13, .cell true 4 (.bool false), (cREF1_0 x), .dfd, cREF1_11, cREF1_18, .cell true 3 (.arr 1 (.int .i64) v43), cREF1_1, .cell true 5 (.arr 1 (.int .u8) v62), .cell true 5 (.arr 1 (.int .u8) v63), .cell true 5 (.arr 1 (.int .u8) v64), cREF1_5, .cell true 3 (.arr 2 (.int .i64) v86), cREF1_2, .cell true 5 (.arr 1 (.int .u8) v105), .cell true 5 (.arr 1 (.int .u8) v106), .cell true 5 (.arr 1 (.int .u8) v107), .cell true 3 (.arr 1 (.int .i64) v108), cREF1_12, .cell true 5 (.arr 1 (.int .u8) v115)] }
 | .h26 v43 v59 v65 v68 v69 v70 v71 =>
 { fr := { id := 97, kind := (.iter 6), T := [(.yld 6), (.ptr 4 []), .any, .any, (.ptr 7 [])] ++ List.replicate 7 .any ++ [(.osl 14 [] 3 0 1 (some 1)), (.int .i64 1), (.int .i64 0)] ++ List.replicate 4 .any ++ [(.osl 9 [] 6 0 4 (some 4)), (.int .i64 4), (.int .i64 3)] ++ List.replicate 31 .any, items := cREF1_10, D := [], base := 7 },
   stk := [{ id := 36, kind := .top, T := [.any, .any, (.ptr 1 []), (.ptr 2 []), (.ptr 3 [])] ++ List.replicate 48 .any, items := cREF1_23, D := [5], base := 0 }],
   H := [.dead, cREF1_22, cREF1_13, .cell true 4 (.bool false), (cREF1_0 x), .dfd, cREF1_11, cREF1_17, .cell true 3 (.arr 2 (.int .i64) v43), .cell true 63 (.agg [6, 6, 6, 6] [(.agg [1, 1, 1, 1, 1, 1] [(.fn 119 []), (.fn 120 []), (.osl 10 [] 1 0 1 (some 1)), (.int .i64 (-1)), (.int .i64 1), (.int .i64 0)]), (.agg [1, 1, 1, 1, 1, 1] [(.fn 120 []), (.fn 121 []), (.osl 11 [] 1 0 1 (some 1)), (.int .i64 (-1)), (.int .i64 2), (.int .i64 0)]), (.agg [1, 1, 1, 1, 1, 1] [(.fn 119 []), (.fn 122 []), (.osl 12 [] 1 0 1 (some 1)), (.int .i64 v59), (.int .i64 1), (.int .i64 1)]), (.agg [1, 1, 1, 1, 1, 1] [(.fn 119 []), (.fn 123 []), (.osl 13 [] 1 0 1 (some 1)), (.int .i64 v65), (.int .i64 1), (.int .i64 4)])]), .cell true 5 (.arr 1 (.int .u8) v68), .cell true 5 (.arr 1 (.int .u8) v69), .cell true 5 (.arr 1 (.int .u8) v70), .cell true 5 (.arr 1 (.int .u8) v71), cREF1_14] }
 | .h27 v43 v62 v63 v64 v86 v105 v106 v107 v108 v115 =>
 { fr := { id := 97, kind := (.iter 6), T := [(.yld 6), (.ptr 4 []), .any, .any, (.ptr 7 [])] ++ List.replicate 7 .any ++ [(.osl 13 [] 3 0 3 (some 3)), (.int .i64 3), (.int .i64 1)] ++ List.replicate 4 .any ++ [(.osl 9 [] 6 0 3 (some 3)), (.int .i64 3), (.int .i64 0)] ++ List.replicate 31 .any, items := cREF1_10, D := [], base := 7 },
   stk := [{ id := 36, kind := .top, T := [.any, .any, (.ptr 1 []), (.ptr 2 []), (.ptr 3 [])] ++ List.replicate 48 .any, items := cREF1_23, D := [5], base := 0 }],
   H := [.dead, cREF1_22, cREF1_13, .cell true 4 (.bool false), (cREF1_0 x), .dfd, cREF1_11, cREF1_21, .cell true 3 (.arr 2 (.int .i64) v43), cREF1_3, .cell true 5 (.arr 1 (.int .u8) v62), .cell true 5 (.arr 1 (.int .u8) v63), .cell true 5 (.arr 1 (.int .u8) v64), cREF1_6, .cell true 3 (.arr 1 (.int .i64) v86), cREF1_4, .cell true 5 (.arr 1 (.int .u8) v105), .cell true 5 (.arr 1 (.int .u8) v106), .cell true 5 (.arr 1 (.int .u8) v107), .cell true 3 (.arr 1 (.int .i64) v108), cREF1_12, .cell true 5 (.arr 1 (.int .u8) v115)] }
 | .h28 v43 v62 v63 v64 v86 v105 v106 v107 v108 v115 =>
 { fr := { id := 97, kind := (.iter 6), T := [(.yld 6), (.ptr 4 []), .any, .any, (.ptr 7 [])] ++ List.replicate 7 .any ++ [(.osl 13 [] 3 0 3 (some 3)), (.int .i64 3), (.int .i64 1)] ++ List.replicate 4 .any ++ [(.osl 9 [] 6 0 3 (some 3)), (.int .i64 3), (.int .i64 1)] ++ List.replicate 31 .any, items := cREF1_10, D := [], base := 7 },
   stk := [{ id := 36, kind := .top, T := [.any, .any, (.ptr 1 []), (.ptr 2 []), (.ptr 3 [])] ++ List.replicate 48 .any, items := cREF1_23, D := [5], base := 0 }],
   H := [.dead, cREF1_22, cREF1_13, .cell true 4 (.bool false), (cREF1_0 x), .dfd, cREF1_11, cREF1_21, .cell true 3 (.arr 2 (.int .i64) v43), cREF1_3, .cell true 5 (.arr 1 (.int .u8) v62), .cell true 5 (.arr 1 (.int .u8) v63), .cell true 5 (.arr 1 (.int .u8) v64), cREF1_6, .cell true 3 (.arr 1 (.int .i64) v86), cREF1_4, .cell true 5 (.arr 1 (.int .u8) v105), .cell true 5 (.arr 1 (.int .u8) v106), .cell true 5 (.arr 1 (.int .u8) v107), .cell true 3 (.arr 1 (.int .i64) v108), cREF1_12, .cell true 5 (.arr 1 (.int .u8) v115)] }
 | .h29 v43 v62 v63 v64 v86 v105 v106 v107 v108 v115 =>
 { fr := { id := 97, kind := (.iter 6), T := [(.yld 6), (.ptr 4 []), .any, .any, (.ptr 7 [])] ++ List.replicate 7 .any ++ [(.osl 13 [] 3 0 3 (some 3)), (.int .i64 3), (.int .i64 1)] ++ List.replicate 4 .any ++ [(.osl 9 [] 6 0 3 (some 3)), (.int .i64 3), (.int .i64 2)] ++ List.replicate 31 .any, items := cREF1_10, D := [], base := 7 },
   stk := [{ id := 36, kind := .top, T := [.any, .any, (.ptr 1 []), (.ptr 2 []), (.ptr 3 [])] ++ List.replicate 48 .any, items := cREF1_23, D := [5], base := 0 }],
   H := [.dead, cREF1_22, cREF1_13, .cell true 4 (.bool false), (cREF1_0 x), .dfd, cREF1_11, cREF1_21, .cell true 3 (.arr 2 (.int .i64) v43), cREF1_3, .cell true 5 (.arr 1 (.int .u8) v62), .cell true 5 (.arr 1 (.int .u8) v63), .cell true 5 (.arr 1 (.int .u8) v64), cREF1_6, .cell true 3 (.arr 1 (.int .i64) v86), cREF1_4, .cell true 5 (.arr 1 (.int .u8) v105), .cell true 5 (.arr 1 (.int .u8) v106), .cell true 5 (.arr 1 (.int .u8) v107), .cell true 3 (.arr 1 (.int .i64) v108), cREF1_12, .cell true 5 (.arr 1 (.int .u8) v115)] }
 | .h30 v43 v50 v72 v91 v92 v93 v94 v113 v114 v115 =>
 { fr := { id := 97, kind := (.iter 6), T := [(.yld 6), (.ptr 4 []), .any, .any, (.ptr 7 [])] ++ List.replicate 7 .any ++ [(.osl 11 [] 3 0 3 (some 3)), (.int .i64 3), (.int .i64 2)] ++ List.replicate 4 .any ++ [(.osl 9 [] 6 0 1 (some 1)), (.int .i64 1), (.int .i64 0)] ++ List.replicate 31 .any, items := cREF1_10, D := [], base := 7 },
   stk := [{ id := 36, kind := .top, T := [.any, .any, (.ptr 1 []), (.ptr 2 []), (.ptr 3 [])] ++ List.replicate 48 .any, items := cREF1_23, D := [5], base := 0 }],
   H := [.dead, cREF1_22, cREF1_13, .cell true 4 (.bool false), (cREF1_0 x), .dfd, cREF1_11, .cell true 59 (.agg [1, 1, 1] [(.osl 8 [] 1 0 1 (some 1)), (.int .u8 0), (.osl 9 [] 6 0 1 (some 1))]), .cell true 3 (.arr 1 (.int .i64) v43), .cell true 63 (.agg [6] [(.agg [1, 1, 1, 1, 1, 1] [(.fn 120 []), (.fn 165 []), (.osl 10 [] 1 0 1 (some 1)), (.int .i64 0), (.int .i64 3), (.int .i64 8)])]), .cell true 5 (.arr 1 (.int .u8) v50), .cell true 59 (.agg [3, 3, 3] [(.agg [1, 1, 1] [(.osl 12 [] 1 0 1 (some 1)), (.int .u8 0), (.osl 13 [] 6 0 3 (some 3))]), (.agg [1, 1, 1] [(.osl 17 [] 1 0 2 (some 2)), (.int .u8 0), (.osl 18 [] 6 0 3 (some 3))]), (.agg [1, 1, 1] [(.osl 8 [] 1 0 1 (some 1)), (.int .u8 0), (.osl 9 [] 6 0 1 (some 1))])]), .cell true 3 (.arr 1 (.int .i64) v72), .cell true 63 (.agg [6, 6, 6] [(.agg [1, 1, 1, 1, 1, 1] [(.fn 119 []), (.fn 120 []), (.osl 14 [] 1 0 1 (some 1)), (.int .i64 (-1)), (.int .i64 1), (.int .i64 0)]), (.agg [1, 1, 1, 1, 1, 1] [(.fn 120 []), (.fn 121 []), (.osl 15 [] 1 0 1 (some 1)), (.int .i64 (-1)), (.int .i64 2), (.int .i64 0)]), (.agg [1, 1, 1, 1, 1, 1] [(.fn 119 []), (.fn 122 []), (.osl 16 [] 1 0 1 (some 1)), (.int .i64 0), (.int .i64 1), (.int .i64 1)])]), .cell true 5 (.arr 1 (.int .u8) v91), .cell true 5 (.arr 1 (.int .u8) v92), .cell true 5 (.arr 1 (.int .u8) v93), .cell true 3 (.arr 2 (.int .i64) v94), .cell true 63 (.agg [6, 6, 6] [(.agg [1, 1, 1, 1, 1, 1] [(.fn 119 []), (.fn 120 []), (.osl 19 [] 1 0 1 (some 1)), (.int .i64 (-1)), (.int .i64 1), (.int .i64 0)]), (.agg [1, 1, 1, 1, 1, 1] [(.fn 120 []), (.fn 121 []), (.osl 20 [] 1 0 1 (some 1)), (.int .i64 (-1)), (.int .i64 2), (.int .i64 0)]), (.agg [1, 1, 1, 1, 1, 1] [(.fn 119 []), (.fn 123 []), (.osl 21 [] 1 0 1 (some 1)), (.int .i64 0), (.int .i64 1), (.int .i64 4)])]), .cell true 5 (.arr 1 (.int .u8) v113), .cell true 5 (.arr 1 (.int .u8) v114), .cell true 5 (.arr 1 (.int .u8) v115)] }
noncomputable def stop36 : FuncId → Nat → Nat → Option Cut
  | 36, 9, 0 => some { tmps := [1, 2, 3, 4], loops := [], dead := [], stk := [] }
  | 97, 15, 7 => some { tmps := [0, 1, 4, 12, 13, 14, 19, 20, 21], loops := [(6, [2, 3, 4])], dead := [0], stk := [[2, 3, 4]] }
  | 36, 17, 0 => some { tmps := [2, 3, 4], loops := [], dead := [], stk := [] }
  | _, _, _ => none
noncomputable def fn36 (x : DI) : (((List Int) × (Int × Unit)) × ((Unit × (Unit × ((List Int) × (Int × (Int × Int))))) × Bool)) := endVal (TC.dflt (.st (.st (.slice (.int .i64)) (.st (.int .u8) (.st1 .junk))) (.st (.st .junk (.st .junk (.st (.slice (.int .u8)) (.st (.int .i64) (.st (.int .i64) (.st1 (.int .i64))))))) (.st1 .bool)))) (step36 x) (tree36 x)
def pre36 (x : DI) : Prop := ∃ r, Ends (step36 x) r (tree36 x)
noncomputable def spec36 : Spec := { dom := (.st1 CInsn), cod := (.st (.st (.slice (.int .i64)) (.st (.int .u8) (.st1 .junk))) (.st (.st .junk (.st .junk (.st (.slice (.int .u8)) (.st (.int .i64) (.st (.int .i64) (.st1 (.int .i64))))))) (.st1 .bool))), n := 3, pre := pre36, f := fn36 }
noncomputable def need36 : FuncId → Option Spec
  | 99 => some spec99
  | 117 => some spec117
  | 119 => some spec119
  | 120 => some spec120
  | 121 => some spec121
  | 122 => some spec122
  | 123 => some spec123
  | 126 => some spec126
  | 127 => some spec127
  | 129 => some spec129
  | 130 => some spec130
  | 144 => some spec144
  | 165 => some spec165
  | _ => none
theorem need36_ok : ∀ f sp, need36 f = some sp → SpecOk env0 f sp := by
  intro f sp h
  unfold need36 at h
  split at h
  · cases h; exact ok99
  · cases h; exact ok117
  · cases h; exact ok119
  · cases h; exact ok120
  · cases h; exact ok121
  · cases h; exact ok122
  · cases h; exact ok123
  · cases h; exact ok126
  · cases h; exact ok127
  · cases h; exact ok129
  · cases h; exact ok130
  · cases h; exact ok144
  · cases h; exact ok165
  · cases h
section
variable (W : Cfg) (Q : (((List Int) × (Int × Unit)) × ((Unit × (Unit × ((List Int) × (Int × (Int × Int))))) × Bool)) → Prop) (x : DI)
theorem run36 : run (env need36 (fun _ _ => none)) stop36 (finS spec36 Q) W 100000 (startFr 36 Tryd.f36 (bodyOf Tryd.f36) (argsOf (.st1 CInsn) x)) [] [] = (tree36 x).wp (kont W Q (head36 x)) := by kernel_rfl
theorem run36h0 : run (env need36 (fun _ _ => none)) stop36 (finS spec36 Q) W 100000 (head36 x (.h0)).fr.enter (head36 x (.h0)).stk (head36 x (.h0)).H = (step36 x (.h0)).wp (kont W Q (head36 x)) := by kernel_rfl
theorem run36h1 (v43 : List Int) (v59 v65 : Int) (v68 v69 : List Int) (v70 v71 : List Int) : run (env need36 (fun _ _ => none)) stop36 (finS spec36 Q) W 100000 (head36 x (.h1 v43 v59 v65 v68 v69 v70 v71)).fr.enter (head36 x (.h1 v43 v59 v65 v68 v69 v70 v71)).stk (head36 x (.h1 v43 v59 v65 v68 v69 v70 v71)).H = (step36 x (.h1 v43 v59 v65 v68 v69 v70 v71)).wp (kont W Q (head36 x)) := by kernel_rfl
theorem run36h2 (v43 v62 : List Int) (v63 v64 : List Int) (v86 v105 : List Int) (v106 v107 : List Int) (v108 v115 : List Int) : run (env need36 (fun _ _ => none)) stop36 (finS spec36 Q) W 100000 (head36 x (.h2 v43 v62 v63 v64 v86 v105 v106 v107 v108 v115)).fr.enter (head36 x (.h2 v43 v62 v63 v64 v86 v105 v106 v107 v108 v115)).stk (head36 x (.h2 v43 v62 v63 v64 v86 v105 v106 v107 v108 v115)).H = (step36 x (.h2 v43 v62 v63 v64 v86 v105 v106 v107 v108 v115)).wp (kont W Q (head36 x)) := by kernel_rfl
theorem run36h3 (v43 v50 : List Int) : run (env need36 (fun _ _ => none)) stop36 (finS spec36 Q) W 100000 (head36 x (.h3 v43 v50)).fr.enter (head36 x (.h3 v43 v50)).stk (head36 x (.h3 v43 v50)).H = (step36 x (.h3 v43 v50)).wp (kont W Q (head36 x)) := by kernel_rfl
theorem run36h4 (v43 v56 v57 : List Int) : run (env need36 (fun _ _ => none)) stop36 (finS spec36 Q) W 100000 (head36 x (.h4 v43 v56 v57)).fr.enter (head36 x (.h4 v43 v56 v57)).stk (head36 x (.h4 v43 v56 v57)).H = (step36 x (.h4 v43 v56 v57)).wp (kont W Q (head36 x)) := by kernel_rfl
theorem run36h5 (v43 : List Int) (v47 : Int) (v50 : List Int) : run (env need36 (fun _ _ => none)) stop36 (finS spec36 Q) W 100000 (head36 x (.h5 v43 v47 v50)).fr.enter (head36 x (.h5 v43 v47 v50)).stk (head36 x (.h5 v43 v47 v50)).H = (step36 x (.h5 v43 v47 v50)).wp (kont W Q (head36 x)) := by kernel_rfl
theorem run36h6 (v43 : List Int) (v47 v53 : Int) (v56 v57 : List Int) : run (env need36 (fun _ _ => none)) stop36 (finS spec36 Q) W 100000 (head36 x (.h6 v43 v47 v53 v56 v57)).fr.enter (head36 x (.h6 v43 v47 v53 v56 v57)).stk (head36 x (.h6 v43 v47 v53 v56 v57)).H = (step36 x (.h6 v43 v47 v53 v56 v57)).wp (kont W Q (head36 x)) := by kernel_rfl
theorem run36h7 (v43 v50 : List Int) : run (env need36 (fun _ _ => none)) stop36 (finS spec36 Q) W 100000 (head36 x (.h7 v43 v50)).fr.enter (head36 x (.h7 v43 v50)).stk (head36 x (.h7 v43 v50)).H = (step36 x (.h7 v43 v50)).wp (kont W Q (head36 x)) := by kernel_rfl
theorem run36h8 (v43 v50 : List Int) : run (env need36 (fun _ _ => none)) stop36 (finS spec36 Q) W 100000 (head36 x (.h8 v43 v50)).fr.enter (head36 x (.h8 v43 v50)).stk (head36 x (.h8 v43 v50)).H = (step36 x (.h8 v43 v50)).wp (kont W Q (head36 x)) := by kernel_rfl
theorem run36h9 (v43 v56 v57 : List Int) : run (env need36 (fun _ _ => none)) stop36 (finS spec36 Q) W 100000 (head36 x (.h9 v43 v56 v57)).fr.enter (head36 x (.h9 v43 v56 v57)).stk (head36 x (.h9 v43 v56 v57)).H = (step36 x (.h9 v43 v56 v57)).wp (kont W Q (head36 x)) := by kernel_rfl
theorem run36h10 (v43 v50 : List Int) : run (env need36 (fun _ _ => none)) stop36 (finS spec36 Q) W 100000 (head36 x (.h10 v43 v50)).fr.enter (head36 x (.h10 v43 v50)).stk (head36 x (.h10 v43 v50)).H = (step36 x (.h10 v43 v50)).wp (kont W Q (head36 x)) := by kernel_rfl
theorem run36h11 (v43 : List Int) (v49 : Int) (v50 : List Int) : run (env need36 (fun _ _ => none)) stop36 (finS spec36 Q) W 100000 (head36 x (.h11 v43 v49 v50)).fr.enter (head36 x (.h11 v43 v49 v50)).stk (head36 x (.h11 v43 v49 v50)).H = (step36 x (.h11 v43 v49 v50)).wp (kont W Q (head36 x)) := by kernel_rfl
theorem run36h12 (v43 v50 : List Int) : run (env need36 (fun _ _ => none)) stop36 (finS spec36 Q) W 100000 (head36 x (.h12 v43 v50)).fr.enter (head36 x (.h12 v43 v50)).stk (head36 x (.h12 v43 v50)).H = (step36 x (.h12 v43 v50)).wp (kont W Q (head36 x)) := by kernel_rfl
theorem run36h13 (v43 v56 v57 : List Int) : run (env need36 (fun _ _ => none)) stop36 (finS spec36 Q) W 100000 (head36 x (.h13 v43 v56 v57)).fr.enter (head36 x (.h13 v43 v56 v57)).stk (head36 x (.h13 v43 v56 v57)).H = (step36 x (.h13 v43 v56 v57)).wp (kont W Q (head36 x)) := by kernel_rfl
theorem run36h14 (v43 v50 : List Int) : run (env need36 (fun _ _ => none)) stop36 (finS spec36 Q) W 100000 (head36 x (.h14 v43 v50)).fr.enter (head36 x (.h14 v43 v50)).stk (head36 x (.h14 v43 v50)).H = (step36 x (.h14 v43 v50)).wp (kont W Q (head36 x)) := by kernel_rfl
theorem run36h15 (v43 v50 : List Int) : run (env need36 (fun _ _ => none)) stop36 (finS spec36 Q) W 100000 (head36 x (.h15 v43 v50)).fr.enter (head36 x (.h15 v43 v50)).stk (head36 x (.h15 v43 v50)).H = (step36 x (.h15 v43 v50)).wp (kont W Q (head36 x)) := by kernel_rfl
theorem run36h16 (v43 v50 : List Int) : run (env need36 (fun _ _ => none)) stop36 (finS spec36 Q) W 100000 (head36 x (.h16 v43 v50)).fr.enter (head36 x (.h16 v43 v50)).stk (head36 x (.h16 v43 v50)).H = (step36 x (.h16 v43 v50)).wp (kont W Q (head36 x)) := by kernel_rfl
theorem run36h17 : run (env need36 (fun _ _ => none)) stop36 (finS spec36 Q) W 100000 (head36 x (.h17)).fr.enter (head36 x (.h17)).stk (head36 x (.h17)).H = (step36 x (.h17)).wp (kont W Q (head36 x)) := by kernel_rfl
theorem run36h18 (v43 : List Int) (v59 v65 : Int) (v68 v69 : List Int) (v70 v71 : List Int) : run (env need36 (fun _ _ => none)) stop36 (finS spec36 Q) W 100000 (head36 x (.h18 v43 v59 v65 v68 v69 v70 v71)).fr.enter (head36 x (.h18 v43 v59 v65 v68 v69 v70 v71)).stk (head36 x (.h18 v43 v59 v65 v68 v69 v70 v71)).H = (step36 x (.h18 v43 v59 v65 v68 v69 v70 v71)).wp (kont W Q (head36 x)) := by kernel_rfl
theorem run36h19 (v43 v62 : List Int) (v63 v64 : List Int) (v86 v105 : List Int) (v106 v107 : List Int) (v108 v115 : List Int) : run (env need36 (fun _ _ => none)) stop36 (finS spec36 Q) W 100000 (head36 x (.h19 v43 v62 v63 v64 v86 v105 v106 v107 v108 v115)).fr.enter (head36 x (.h19 v43 v62 v63 v64 v86 v105 v106 v107 v108 v115)).stk (head36 x (.h19 v43 v62 v63 v64 v86 v105 v106 v107 v108 v115)).H = (step36 x (.h19 v43 v62 v63 v64 v86 v105 v106 v107 v108 v115)).wp (kont W Q (head36 x)) := by kernel_rfl
theorem run36h20 (v43 v56 v57 : List Int) : run (env need36 (fun _ _ => none)) stop36 (finS spec36 Q) W 100000 (head36 x (.h20 v43 v56 v57)).fr.enter (head36 x (.h20 v43 v56 v57)).stk (head36 x (.h20 v43 v56 v57)).H = (step36 x (.h20 v43 v56 v57)).wp (kont W Q (head36 x)) := by kernel_rfl
theorem run36h21 (v43 : List Int) (v47 v53 : Int) (v56 v57 : List Int) : run (env need36 (fun _ _ => none)) stop36 (finS spec36 Q) W 100000 (head36 x (.h21 v43 v47 v53 v56 v57)).fr.enter (head36 x (.h21 v43 v47 v53 v56 v57)).stk (head36 x (.h21 v43 v47 v53 v56 v57)).H = (step36 x (.h21 v43 v47 v53 v56 v57)).wp (kont W Q (head36 x)) := by kernel_rfl
theorem run36h22 (v43 v56 v57 : List Int) : run (env need36 (fun _ _ => none)) stop36 (finS spec36 Q) W 100000 (head36 x (.h22 v43 v56 v57)).fr.enter (head36 x (.h22 v43 v56 v57)).stk (head36 x (.h22 v43 v56 v57)).H = (step36 x (.h22 v43 v56 v57)).wp (kont W Q (head36 x)) := by kernel_rfl
theorem run36h23 (v43 v56 v57 : List Int) : run (env need36 (fun _ _ => none)) stop36 (finS spec36 Q) W 100000 (head36 x (.h23 v43 v56 v57)).fr.enter (head36 x (.h23 v43 v56 v57)).stk (head36 x (.h23 v43 v56 v57)).H = (step36 x (.h23 v43 v56 v57)).wp (kont W Q (head36 x)) := by kernel_rfl
theorem run36h24 (v43 : List Int) (v59 v65 : Int) (v68 v69 : List Int) (v70 v71 : List Int) : run (env need36 (fun _ _ => none)) stop36 (finS spec36 Q) W 100000 (head36 x (.h24 v43 v59 v65 v68 v69 v70 v71)).fr.enter (head36 x (.h24 v43 v59 v65 v68 v69 v70 v71)).stk (head36 x (.h24 v43 v59 v65 v68 v69 v70 v71)).H = (step36 x (.h24 v43 v59 v65 v68 v69 v70 v71)).wp (kont W Q (head36 x)) := by kernel_rfl
theorem run36h25 (v43 v62 : List Int) (v63 v64 : List Int) (v86 v105 : List Int) (v106 v107 : List Int) (v108 v115 : List Int) : run (env need36 (fun _ _ => none)) stop36 (finS spec36 Q) W 100000 (head36 x (.h25 v43 v62 v63 v64 v86 v105 v106 v107 v108 v115)).fr.enter (head36 x (.h25 v43 v62 v63 v64 v86 v105 v106 v107 v108 v115)).stk (head36 x (.h25 v43 v62 v63 v64 v86 v105 v106 v107 v108 v115)).H = (step36 x (.h25 v43 v62 v63 v64 v86 v105 v106 v107 v108 v115)).wp (kont W Q (head36 x)) := by kernel_rfl
theorem run36h26 (v43 : List Int) (v59 v65 : Int) (v68 v69 : List Int) (v70 v71 : List Int) : run (env need36 (fun _ _ => none)) stop36 (finS spec36 Q) W 100000 (head36 x (.h26 v43 v59 v65 v68 v69 v70 v71)).fr.enter (head36 x (.h26 v43 v59 v65 v68 v69 v70 v71)).stk (head36 x (.h26 v43 v59 v65 v68 v69 v70 v71)).H = (step36 x (.h26 v43 v59 v65 v68 v69 v70 v71)).wp (kont W Q (head36 x)) := by kernel_rfl
theorem run36h27 (v43 v62 : List Int) (v63 v64 : List Int) (v86 v105 : List Int) (v106 v107 : List Int) (v108 v115 : List Int) : run (env need36 (fun _ _ => none)) stop36 (finS spec36 Q) W 100000 (head36 x (.h27 v43 v62 v63 v64 v86 v105 v106 v107 v108 v115)).fr.enter (head36 x (.h27 v43 v62 v63 v64 v86 v105 v106 v107 v108 v115)).stk (head36 x (.h27 v43 v62 v63 v64 v86 v105 v106 v107 v108 v115)).H = (step36 x (.h27 v43 v62 v63 v64 v86 v105 v106 v107 v108 v115)).wp (kont W Q (head36 x)) := by kernel_rfl
theorem run36h28 (v43 v62 : List Int) (v63 v64 : List Int) (v86 v105 : List Int) (v106 v107 : List Int) (v108 v115 : List Int) : run (env need36 (fun _ _ => none)) stop36 (finS spec36 Q) W 100000 (head36 x (.h28 v43 v62 v63 v64 v86 v105 v106 v107 v108 v115)).fr.enter (head36 x (.h28 v43 v62 v63 v64 v86 v105 v106 v107 v108 v115)).stk (head36 x (.h28 v43 v62 v63 v64 v86 v105 v106 v107 v108 v115)).H = (step36 x (.h28 v43 v62 v63 v64 v86 v105 v106 v107 v108 v115)).wp (kont W Q (head36 x)) := by kernel_rfl
theorem run36h29 (v43 v62 : List Int) (v63 v64 : List Int) (v86 v105 : List Int) (v106 v107 : List Int) (v108 v115 : List Int) : run (env need36 (fun _ _ => none)) stop36 (finS spec36 Q) W 100000 (head36 x (.h29 v43 v62 v63 v64 v86 v105 v106 v107 v108 v115)).fr.enter (head36 x (.h29 v43 v62 v63 v64 v86 v105 v106 v107 v108 v115)).stk (head36 x (.h29 v43 v62 v63 v64 v86 v105 v106 v107 v108 v115)).H = (step36 x (.h29 v43 v62 v63 v64 v86 v105 v106 v107 v108 v115)).wp (kont W Q (head36 x)) := by kernel_rfl
theorem run36h30 (v43 v50 : List Int) (v72 v91 : List Int) (v92 v93 : List Int) (v94 v113 : List Int) (v114 v115 : List Int) : run (env need36 (fun _ _ => none)) stop36 (finS spec36 Q) W 100000 (head36 x (.h30 v43 v50 v72 v91 v92 v93 v94 v113 v114 v115)).fr.enter (head36 x (.h30 v43 v50 v72 v91 v92 v93 v94 v113 v114 v115)).stk (head36 x (.h30 v43 v50 v72 v91 v92 v93 v94 v113 v114 v115)).H = (step36 x (.h30 v43 v50 v72 v91 v92 v93 v94 v113 v114 v115)).wp (kont W Q (head36 x)) := by kernel_rfl
end
theorem runs36 (W : Cfg) (Q : (((List Int) × (Int × Unit)) × ((Unit × (Unit × ((List Int) × (Int × (Int × Int))))) × Bool)) → Prop) (x : DI) : ∀ j : J36, run (env need36 (fun _ _ => none)) stop36 (finS spec36 Q) W 100000 (head36 x j).fr.enter (head36 x j).stk (head36 x j).H = (step36 x j).wp (kont W Q (head36 x))
 | .h0 => run36h0 W Q x
 | .h1 v43 v59 v65 v68 v69 v70 v71 => run36h1 W Q x v43 v59 v65 v68 v69 v70 v71
 | .h2 v43 v62 v63 v64 v86 v105 v106 v107 v108 v115 => run36h2 W Q x v43 v62 v63 v64 v86 v105 v106 v107 v108 v115
 | .h3 v43 v50 => run36h3 W Q x v43 v50
 | .h4 v43 v56 v57 => run36h4 W Q x v43 v56 v57
 | .h5 v43 v47 v50 => run36h5 W Q x v43 v47 v50
 | .h6 v43 v47 v53 v56 v57 => run36h6 W Q x v43 v47 v53 v56 v57
 | .h7 v43 v50 => run36h7 W Q x v43 v50
 | .h8 v43 v50 => run36h8 W Q x v43 v50
 | .h9 v43 v56 v57 => run36h9 W Q x v43 v56 v57
 | .h10 v43 v50 => run36h10 W Q x v43 v50
 | .h11 v43 v49 v50 => run36h11 W Q x v43 v49 v50
 | .h12 v43 v50 => run36h12 W Q x v43 v50
 | .h13 v43 v56 v57 => run36h13 W Q x v43 v56 v57
 | .h14 v43 v50 => run36h14 W Q x v43 v50
 | .h15 v43 v50 => run36h15 W Q x v43 v50
 | .h16 v43 v50 => run36h16 W Q x v43 v50
 | .h17 => run36h17 W Q x
 | .h18 v43 v59 v65 v68 v69 v70 v71 => run36h18 W Q x v43 v59 v65 v68 v69 v70 v71
 | .h19 v43 v62 v63 v64 v86 v105 v106 v107 v108 v115 => run36h19 W Q x v43 v62 v63 v64 v86 v105 v106 v107 v108 v115
 | .h20 v43 v56 v57 => run36h20 W Q x v43 v56 v57
 | .h21 v43 v47 v53 v56 v57 => run36h21 W Q x v43 v47 v53 v56 v57
 | .h22 v43 v56 v57 => run36h22 W Q x v43 v56 v57
 | .h23 v43 v56 v57 => run36h23 W Q x v43 v56 v57
 | .h24 v43 v59 v65 v68 v69 v70 v71 => run36h24 W Q x v43 v59 v65 v68 v69 v70 v71
 | .h25 v43 v62 v63 v64 v86 v105 v106 v107 v108 v115 => run36h25 W Q x v43 v62 v63 v64 v86 v105 v106 v107 v108 v115
 | .h26 v43 v59 v65 v68 v69 v70 v71 => run36h26 W Q x v43 v59 v65 v68 v69 v70 v71
 | .h27 v43 v62 v63 v64 v86 v105 v106 v107 v108 v115 => run36h27 W Q x v43 v62 v63 v64 v86 v105 v106 v107 v108 v115
 | .h28 v43 v62 v63 v64 v86 v105 v106 v107 v108 v115 => run36h28 W Q x v43 v62 v63 v64 v86 v105 v106 v107 v108 v115
 | .h29 v43 v62 v63 v64 v86 v105 v106 v107 v108 v115 => run36h29 W Q x v43 v62 v63 v64 v86 v105 v106 v107 v108 v115
 | .h30 v43 v50 v72 v91 v92 v93 v94 v113 v114 v115 => run36h30 W Q x v43 v50 v72 v91 v92 v93 v94 v113 v114 v115
theorem ok36 : SpecOk env0 36 spec36 := SpecOk.env rfl (fun _ _ h => h) (spec_of_trees (E := (env need36 (fun _ _ => none))) (sp := spec36) (valid _ _) (fun f sp h => SpecOk.env rfl (fun _ _ h => h) (need36_ok f sp h)) (fn := Tryd.f36) (c := (bodyOf Tryd.f36)) (by kernel_rfl) (by kernel_rfl) tree36 step36 head36 run36 runs36 (fun _ h => endVal_ends h))
end Go.Eng.RE
end
