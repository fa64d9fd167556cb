/- A part of the proof that the laws of this seat hold. Conditions: none beyond the row. -/
import Derived.Test.YtjjoocjlmopfjaaDoorEng1
import Derived.Test.YtjjoocjlmopfjaaDoorProg
import Derived.KernelRfl
import Derived.Lib.LaidTab
import Derived.Stop.LaidErr
set_option linter.unusedVariables false
set_option linter.unusedSimpArgs false
set_option linter.unusedSectionVars false
section
/- The tables of this program, and that they are right. -/
namespace Go.Eng.RE
open Go.Proofs Go.Eng
set_option maxRecDepth 100000

@[reducible] def CerrorAddressString : TC := (.st .str (.st1 (.int .u64)))
@[reducible] def CboundsError : TC := (.st (.int .i64) (.st (.int .i64) (.st .bool (.st1 (.int .u8)))))
@[reducible] def Chead : TC := (.st (.int .u8) (.st .bool (.st (.int .u8) (.st (.int .u8) (.st (.int .u8) (.st1 (.int .i64)))))))
abbrev Dhead : Type := (Int × (Bool × (Int × (Int × (Int × Int)))))
@[reducible] def Creader : TC := (.st (.slice (.int .u8)) (.st .bool (.st (.int .u8) (.st .bool (.st (.int .u8) (.st (.int .u8) (.st1 (.int .u8))))))))
abbrev Dreader : Type := ((List Int) × (Bool × (Int × (Bool × (Int × (Int × Int))))))
@[reducible] def COperand : TC := (.st (.int .u8) (.st (.int .i64) (.st (.int .i64) (.st (.int .i64) (.st (.int .i64) (.st (.int .i64) (.st .bool (.st1 (.int .i64)))))))))
abbrev DOperand : Type := (Int × (Int × (Int × (Int × (Int × (Int × (Bool × Int)))))))
@[reducible] def Crow : TC := (.st (.int .i64) (.st .str (.st .str (.st (.int .u8) (.st (.slice (.int .u8)) (.st (.int .i64) (.st (.int .i64) (.st1 (.int .i64)))))))))
abbrev Drow : Type := (Int × (ByteArray × (ByteArray × (Int × ((List Int) × (Int × (Int × Int)))))))
@[reducible] def CInsn : TC := (.st (.int .u8) (.st (.int .u8) (.st (.int .i64) (.st COperand (.st COperand (.st (.int .u8) (.st1 (.int .i64))))))))
abbrev DInsn : Type := (Int × (Int × (Int × (DOperand × (DOperand × (Int × Int))))))
@[reducible] def CForm : TC := (.st (.int .u8) (.st (.int .u8) (.st (.int .u8) (.st .bool (.st (.int .i64) (.st (.int .u8) (.st (.int .u8) (.st (.int .i64) (.st (.int .u8) (.st (.int .i64) (.st .bool (.st .bool (.st .bool (.st1 .bool))))))))))))))
abbrev DForm : Type := (Int × (Int × (Int × (Bool × (Int × (Int × (Int × (Int × (Int × (Int × (Bool × (Bool × (Bool × Bool)))))))))))))

noncomputable def ty : TypeId → Option ATy
  | 1 => some { desc := Tryd.t1.desc, size := 1, bytes := 8, zero := (.raw .nilFunc), code := none }
  | 2 => some { desc := (.int .i64), size := 1, bytes := 8, zero := (.int .i64 0), code := (some (.int .i64)) }
  | 3 => some { desc := (.int .i64), size := 1, bytes := 8, zero := (.int .i64 0), code := (some (.int .i64)) }
  | 4 => some { desc := .bool, size := 1, bytes := 1, zero := (.bool false), code := (some .bool) }
  | 5 => some { desc := (.int .u8), size := 1, bytes := 1, zero := (.int .u8 0), code := (some (.int .u8)) }
  | 6 => some { desc := (.int .u8), size := 1, bytes := 1, zero := (.int .u8 0), code := (some (.int .u8)) }
  | 7 => some { desc := Tryd.t7.desc, size := 4, bytes := 24, zero := (.agg [1, 1, 1, 1] [(.int .i64 0), (.int .i64 0), (.bool false), (.int .u8 0)]), code := (some CboundsError) }
  | 8 => some { desc := Tryd.t7.desc, size := 4, bytes := 24, zero := (.agg [1, 1, 1, 1] [(.int .i64 0), (.int .i64 0), (.bool false), (.int .u8 0)]), code := (some CboundsError) }
  | 9 => some { desc := .string, size := 1, bytes := 16, zero := (.str ByteArray.empty), code := (some .str) }
  | 10 => some { desc := .string, size := 1, bytes := 16, zero := (.str ByteArray.empty), code := (some .str) }
  | 11 => some { desc := .string, size := 1, bytes := 16, zero := (.str ByteArray.empty), code := (some .str) }
  | 12 => some { desc := (.int .u64), size := 1, bytes := 8, zero := (.int .u64 0), code := (some (.int .u64)) }
  | 13 => some { desc := Tryd.t13.desc, size := 2, bytes := 24, zero := (.agg [1, 1] [(.str ByteArray.empty), (.int .u64 0)]), code := (some CerrorAddressString) }
  | 14 => some { desc := Tryd.t13.desc, size := 2, bytes := 24, zero := (.agg [1, 1] [(.str ByteArray.empty), (.int .u64 0)]), code := (some CerrorAddressString) }
  | 15 => some { desc := (.pointer 180), size := 1, bytes := 8, zero := (.raw (.pointer none)), code := none }
  | 16 => some { desc := (.pointer 183), size := 1, bytes := 8, zero := (.raw (.pointer none)), code := none }
  | 17 => some { desc := (.pointer 192), size := 1, bytes := 8, zero := (.raw (.pointer none)), code := none }
  | 18 => some { desc := Tryd.t18.desc, size := 1, bytes := 8, zero := (.agg [1] [(.raw (.pointer none))]), code := none }
  | 19 => some { desc := Tryd.t18.desc, size := 1, bytes := 8, zero := (.agg [1] [(.raw (.pointer none))]), code := none }
  | 20 => some { desc := Tryd.t20.desc, size := 1, bytes := 16, zero := (.raw .nilIface), code := none }
  | 21 => some { desc := (.int .i32), size := 1, bytes := 4, zero := (.int .i32 0), code := (some (.int .i32)) }
  | 22 => some { desc := Tryd.t22.desc, size := 8, bytes := 64, zero := (.agg [1, 1, 1, 1, 1, 1, 1, 1] [(.int .u8 0), (.int .i64 0), (.int .i64 0), (.int .i64 0), (.int .i64 0), (.int .i64 0), (.bool false), (.int .i64 0)]), code := (some COperand) }
  | 23 => some { desc := Tryd.t22.desc, size := 8, bytes := 64, zero := (.agg [1, 1, 1, 1, 1, 1, 1, 1] [(.int .u8 0), (.int .i64 0), (.int .i64 0), (.int .i64 0), (.int .i64 0), (.int .i64 0), (.bool false), (.int .i64 0)]), code := (some COperand) }
  | 24 => some { desc := Tryd.t24.desc, size := 21, bytes := 160, zero := (.agg [1, 1, 1, 8, 8, 1, 1] [(.int .u8 0), (.int .u8 0), (.int .i64 0), (.agg [1, 1, 1, 1, 1, 1, 1, 1] [(.int .u8 0), (.int .i64 0), (.int .i64 0), (.int .i64 0), (.int .i64 0), (.int .i64 0), (.bool false), (.int .i64 0)]), (.agg [1, 1, 1, 1, 1, 1, 1, 1] [(.int .u8 0), (.int .i64 0), (.int .i64 0), (.int .i64 0), (.int .i64 0), (.int .i64 0), (.bool false), (.int .i64 0)]), (.int .u8 0), (.int .i64 0)]), code := (some CInsn) }
  | 25 => some { desc := Tryd.t24.desc, size := 21, bytes := 160, zero := (.agg [1, 1, 1, 8, 8, 1, 1] [(.int .u8 0), (.int .u8 0), (.int .i64 0), (.agg [1, 1, 1, 1, 1, 1, 1, 1] [(.int .u8 0), (.int .i64 0), (.int .i64 0), (.int .i64 0), (.int .i64 0), (.int .i64 0), (.bool false), (.int .i64 0)]), (.agg [1, 1, 1, 1, 1, 1, 1, 1] [(.int .u8 0), (.int .i64 0), (.int .i64 0), (.int .i64 0), (.int .i64 0), (.int .i64 0), (.bool false), (.int .i64 0)]), (.int .u8 0), (.int .i64 0)]), code := (some CInsn) }
  | 26 => some { desc := (.slice 25), size := 1, bytes := 24, zero := (.raw (.slice none 0 0)), code := (some (.slice CInsn)) }
  | 27 => some { desc := Tryd.t27.desc, size := 1, bytes := 8, zero := (.raw .nilFunc), code := none }
  | 28 => some { desc := (.slice 5), size := 1, bytes := 24, zero := (.raw (.slice none 0 0)), code := (some (.slice (.int .u8))) }
  | 29 => some { desc := (.int .i64), size := 1, bytes := 8, zero := (.int .i64 0), code := (some (.int .i64)) }
  | 31 => some { desc := Tryd.t31.desc, size := 1, bytes := 8, zero := (.raw .nilFunc), code := none }
  | 32 => some { desc := Tryd.t32.desc, size := 1, bytes := 8, zero := (.raw .nilFunc), code := none }
  | 33 => some { desc := Tryd.t33.desc, size := 1, bytes := 8, zero := (.raw .nilFunc), code := none }
  | 34 => some { desc := Tryd.t34.desc, size := 1, bytes := 8, zero := (.raw .nilFunc), code := none }
  | 35 => some { desc := Tryd.t35.desc, size := 1, bytes := 8, zero := (.raw .nilFunc), code := none }
  | 36 => some { desc := Tryd.t36.desc, size := 1, bytes := 8, zero := (.raw .nilFunc), code := none }
  | 37 => some { desc := Tryd.t37.desc, size := 1, bytes := 8, zero := (.raw .nilFunc), code := none }
  | 38 => some { desc := Tryd.t38.desc, size := 1, bytes := 8, zero := (.raw .nilFunc), code := none }
  | 39 => some { desc := Tryd.t39.desc, size := 1, bytes := 8, zero := (.raw .nilFunc), code := none }
  | 41 => some { desc := Tryd.t41.desc, size := 1, bytes := 8, zero := (.raw .nilFunc), code := none }
  | 42 => some { desc := Tryd.t42.desc, size := 1, bytes := 8, zero := (.raw .nilFunc), code := none }
  | 44 => some { desc := Tryd.t44.desc, size := 1, bytes := 8, zero := (.raw .nilFunc), code := none }
  | 45 => some { desc := Tryd.t45.desc, size := 1, bytes := 8, zero := (.raw .nilFunc), code := none }
  | 46 => some { desc := Tryd.t46.desc, size := 1, bytes := 8, zero := (.raw .nilFunc), code := none }
  | 47 => some { desc := (.array 8 5), size := 8, bytes := 8, zero := (.arr 8 (.int .u8) (List.replicate 8 (0 : Int))), code := (some (.arr 8 (.int .u8))) }
  | 48 => some { desc := (.slice 51), size := 1, bytes := 24, zero := (.raw (.slice none 0 0)), code := (some (.slice CForm)) }
  | 49 => some { desc := Tryd.t49.desc, size := 1, bytes := 8, zero := (.raw .nilFunc), code := none }
  | 50 => some { desc := Tryd.t50.desc, size := 14, bytes := 56, zero := (.agg [1, 1, 1, 1, 1, 1, 1, 1, 1, 1, 1, 1, 1, 1] [(.int .u8 0), (.int .u8 0), (.int .u8 0), (.bool false), (.int .i64 0), (.int .u8 0), (.int .u8 0), (.int .i64 0), (.int .u8 0), (.int .i64 0), (.bool false), (.bool false), (.bool false), (.bool false)]), code := (some CForm) }
  | 51 => some { desc := Tryd.t50.desc, size := 14, bytes := 56, zero := (.agg [1, 1, 1, 1, 1, 1, 1, 1, 1, 1, 1, 1, 1, 1] [(.int .u8 0), (.int .u8 0), (.int .u8 0), (.bool false), (.int .i64 0), (.int .u8 0), (.int .u8 0), (.int .i64 0), (.int .u8 0), (.int .i64 0), (.bool false), (.bool false), (.bool false), (.bool false)]), code := (some CForm) }
  | 52 => some { desc := (.int .u64), size := 1, bytes := 8, zero := (.int .u64 0), code := (some (.int .u64)) }
  | 53 => some { desc := Tryd.t53.desc, size := 1, bytes := 8, zero := (.raw .nilFunc), code := none }
  | 54 => some { desc := Tryd.t54.desc, size := 1, bytes := 8, zero := (.raw .nilFunc), code := none }
  | 55 => some { desc := Tryd.t55.desc, size := 1, bytes := 8, zero := (.raw .nilFunc), code := none }
  | 56 => some { desc := (.slice 3), size := 1, bytes := 24, zero := (.raw (.slice none 0 0)), code := (some (.slice (.int .i64))) }
  | 57 => some { desc := (.slice 63), size := 1, bytes := 24, zero := (.raw (.slice none 0 0)), code := none }
  | 58 => some { desc := Tryd.t58.desc, size := 3, bytes := 56, zero := (.agg [1, 1, 1] [(.raw (.slice none 0 0)), (.int .u8 0), (.raw (.slice none 0 0))]), code := none }
  | 59 => some { desc := Tryd.t58.desc, size := 3, bytes := 56, zero := (.agg [1, 1, 1] [(.raw (.slice none 0 0)), (.int .u8 0), (.raw (.slice none 0 0))]), code := none }
  | 60 => some { desc := Tryd.t60.desc, size := 1, bytes := 8, zero := (.raw .nilFunc), code := none }
  | 61 => some { desc := Tryd.t60.desc, size := 1, bytes := 8, zero := (.raw .nilFunc), code := none }
  | 62 => some { desc := Tryd.t62.desc, size := 6, bytes := 64, zero := (.agg [1, 1, 1, 1, 1, 1] [(.raw .nilFunc), (.raw .nilFunc), (.raw (.slice none 0 0)), (.int .i64 0), (.int .i64 0), (.int .i64 0)]), code := none }
  | 63 => some { desc := Tryd.t62.desc, size := 6, bytes := 64, zero := (.agg [1, 1, 1, 1, 1, 1] [(.raw .nilFunc), (.raw .nilFunc), (.raw (.slice none 0 0)), (.int .i64 0), (.int .i64 0), (.int .i64 0)]), code := none }
  | 65 => some { desc := Tryd.t65.desc, size := 1, bytes := 8, zero := (.raw .nilFunc), code := none }
  | 66 => some { desc := Tryd.t66.desc, size := 1, bytes := 8, zero := (.raw .nilFunc), code := none }
  | 67 => some { desc := Tryd.t67.desc, size := 1, bytes := 8, zero := (.raw .nilFunc), code := none }
  | 69 => some { desc := Tryd.t69.desc, size := 1, bytes := 8, zero := (.raw .nilFunc), code := none }
  | 70 => some { desc := Tryd.t70.desc, size := 1, bytes := 8, zero := (.raw .nilFunc), code := none }
  | 71 => some { desc := Tryd.t71.desc, size := 8, bytes := 96, zero := (.agg [1, 1, 1, 1, 1, 1, 1, 1] [(.int .i64 0), (.str ByteArray.empty), (.str ByteArray.empty), (.int .u8 0), (.raw (.slice none 0 0)), (.int .i64 0), (.int .i64 0), (.int .i64 0)]), code := (some Crow) }
  | 72 => some { desc := Tryd.t71.desc, size := 8, bytes := 96, zero := (.agg [1, 1, 1, 1, 1, 1, 1, 1] [(.int .i64 0), (.str ByteArray.empty), (.str ByteArray.empty), (.int .u8 0), (.raw (.slice none 0 0)), (.int .i64 0), (.int .i64 0), (.int .i64 0)]), code := (some Crow) }
  | 74 => some { desc := Tryd.t74.desc, size := 1, bytes := 8, zero := (.raw .nilFunc), code := none }
  | 75 => some { desc := Tryd.t75.desc, size := 1, bytes := 8, zero := (.raw .nilFunc), code := none }
  | 76 => some { desc := Tryd.t76.desc, size := 6, bytes := 16, zero := (.agg [1, 1, 1, 1, 1, 1] [(.int .u8 0), (.bool false), (.int .u8 0), (.int .u8 0), (.int .u8 0), (.int .i64 0)]), code := (some Chead) }
  | 77 => some { desc := Tryd.t76.desc, size := 6, bytes := 16, zero := (.agg [1, 1, 1, 1, 1, 1] [(.int .u8 0), (.bool false), (.int .u8 0), (.int .u8 0), (.int .u8 0), (.int .i64 0)]), code := (some Chead) }
  | 79 => some { desc := Tryd.t79.desc, size := 1, bytes := 8, zero := (.raw .nilFunc), code := none }
  | 81 => some { desc := Tryd.t81.desc, size := 1, bytes := 8, zero := (.raw .nilFunc), code := none }
  | 82 => some { desc := Tryd.t82.desc, size := 1, bytes := 8, zero := (.raw .nilFunc), code := none }
  | 84 => some { desc := Tryd.t84.desc, size := 1, bytes := 8, zero := (.raw .nilFunc), code := none }
  | 85 => some { desc := Tryd.t85.desc, size := 1, bytes := 8, zero := (.raw .nilFunc), code := none }
  | 86 => some { desc := Tryd.t86.desc, size := 1, bytes := 8, zero := (.raw .nilFunc), code := none }
  | 87 => some { desc := (.pointer 89), size := 1, bytes := 8, zero := (.raw (.pointer none)), code := none }
  | 88 => some { desc := Tryd.t88.desc, size := 7, bytes := 32, zero := (.agg [1, 1, 1, 1, 1, 1, 1] [(.raw (.slice none 0 0)), (.bool false), (.int .u8 0), (.bool false), (.int .u8 0), (.int .u8 0), (.int .u8 0)]), code := (some Creader) }
  | 89 => some { desc := Tryd.t88.desc, size := 7, bytes := 32, zero := (.agg [1, 1, 1, 1, 1, 1, 1] [(.raw (.slice none 0 0)), (.bool false), (.int .u8 0), (.bool false), (.int .u8 0), (.int .u8 0), (.int .u8 0)]), code := (some Creader) }
  | 90 => some { desc := Tryd.t90.desc, size := 1, bytes := 8, zero := (.raw .nilFunc), code := none }
  | 92 => some { desc := Tryd.t92.desc, size := 1, bytes := 8, zero := (.raw .nilFunc), code := none }
  | 93 => some { desc := Tryd.t93.desc, size := 1, bytes := 8, zero := (.raw .nilFunc), code := none }
  | 94 => some { desc := (.array 4 1), size := 4, bytes := 32, zero := (.agg [1, 1, 1, 1] [(.raw .nilFunc), (.raw .nilFunc), (.raw .nilFunc), (.raw .nilFunc)]), code := none }
  | 95 => some { desc := Tryd.t95.desc, size := 1, bytes := 8, zero := (.raw .nilFunc), code := none }
  | 96 => some { desc := (.array 9 95), size := 9, bytes := 72, zero := (.agg [1, 1, 1, 1, 1, 1, 1, 1, 1] [(.raw .nilFunc), (.raw .nilFunc), (.raw .nilFunc), (.raw .nilFunc), (.raw .nilFunc), (.raw .nilFunc), (.raw .nilFunc), (.raw .nilFunc), (.raw .nilFunc)]), code := none }
  | 97 => some { desc := Tryd.t97.desc, size := 1, bytes := 8, zero := (.raw .nilFunc), code := none }
  | 98 => some { desc := Tryd.t97.desc, size := 1, bytes := 8, zero := (.raw .nilFunc), code := none }
  | 99 => some { desc := Tryd.t99.desc, size := 1, bytes := 8, zero := (.raw .nilFunc), code := none }
  | 100 => some { desc := Tryd.t100.desc, size := 1, bytes := 8, zero := (.raw .nilFunc), code := none }
  | 101 => some { desc := Tryd.t100.desc, size := 1, bytes := 8, zero := (.raw .nilFunc), code := none }
  | 102 => some { desc := Tryd.t102.desc, size := 1, bytes := 8, zero := (.raw .nilFunc), code := none }
  | 103 => some { desc := Tryd.t103.desc, size := 1, bytes := 8, zero := (.raw .nilFunc), code := none }
  | 104 => some { desc := Tryd.t104.desc, size := 1, bytes := 8, zero := (.raw .nilFunc), code := none }
  | 106 => some { desc := Tryd.t106.desc, size := 1, bytes := 8, zero := (.raw .nilFunc), code := none }
  | 107 => some { desc := Tryd.t107.desc, size := 1, bytes := 8, zero := (.raw .nilFunc), code := none }
  | 108 => some { desc := (.slice 28), size := 1, bytes := 24, zero := (.raw (.slice none 0 0)), code := (some (.slice (.slice (.int .u8)))) }
  | 109 => some { desc := Tryd.t109.desc, size := 1, bytes := 8, zero := (.raw .nilFunc), code := none }
  | 110 => some { desc := (.slice 72), size := 1, bytes := 24, zero := (.raw (.slice none 0 0)), code := (some (.slice Crow)) }
  | 111 => some { desc := Tryd.t111.desc, size := 1, bytes := 8, zero := (.raw .nilFunc), code := none }
  | 112 => some { desc := Tryd.t112.desc, size := 1, bytes := 8, zero := (.raw .nilFunc), code := none }
  | 113 => some { desc := Tryd.t113.desc, size := 1, bytes := 8, zero := (.raw .nilFunc), code := none }
  | 114 => some { desc := (.int .u64), size := 1, bytes := 8, zero := (.int .u64 0), code := (some (.int .u64)) }
  | 115 => some { desc := Tryd.t115.desc, size := 1, bytes := 8, zero := (.raw .nilFunc), code := none }
  | 117 => some { desc := Tryd.t117.desc, size := 1, bytes := 8, zero := (.raw .nilFunc), code := none }
  | 118 => some { desc := Tryd.t118.desc, size := 1, bytes := 8, zero := (.raw .nilFunc), code := none }
  | 119 => some { desc := Tryd.t119.desc, size := 1, bytes := 8, zero := (.raw .nilFunc), code := none }
  | 121 => some { desc := Tryd.t121.desc, size := 1, bytes := 8, zero := (.raw .nilFunc), code := none }
  | 122 => some { desc := Tryd.t122.desc, size := 1, bytes := 8, zero := (.raw .nilFunc), code := none }
  | 123 => some { desc := Tryd.t123.desc, size := 1, bytes := 8, zero := (.raw .nilFunc), code := none }
  | 124 => some { desc := (.array 5 3), size := 5, bytes := 40, zero := (.arr 5 (.int .i64) (List.replicate 5 (0 : Int))), code := (some (.arr 5 (.int .i64))) }
  | 125 => some { desc := (.array 5 5), size := 5, bytes := 5, zero := (.arr 5 (.int .u8) (List.replicate 5 (0 : Int))), code := (some (.arr 5 (.int .u8))) }
  | 126 => some { desc := Tryd.t126.desc, size := 1, bytes := 8, zero := (.raw .nilFunc), code := none }
  | 127 => some { desc := (.slice 59), size := 1, bytes := 24, zero := (.raw (.slice none 0 0)), code := none }
  | 128 => some { desc := Tryd.t128.desc, size := 1, bytes := 8, zero := (.raw .nilFunc), code := none }
  | 129 => some { desc := Tryd.t129.desc, size := 1, bytes := 8, zero := (.raw .nilFunc), code := none }
  | 130 => some { desc := (.int .i8), size := 1, bytes := 1, zero := (.int .i8 0), code := (some (.int .i8)) }
  | 131 => some { desc := Tryd.t131.desc, size := 1, bytes := 8, zero := (.raw .nilFunc), code := none }
  | 132 => some { desc := (.int .u32), size := 1, bytes := 4, zero := (.int .u32 0), code := (some (.int .u32)) }
  | 133 => some { desc := Tryd.t133.desc, size := 1, bytes := 8, zero := (.raw .nilFunc), code := none }
  | 134 => some { desc := Tryd.t134.desc, size := 1, bytes := 8, zero := (.raw .nilFunc), code := none }
  | 135 => some { desc := Tryd.t135.desc, size := 1, bytes := 8, zero := (.raw .nilFunc), code := none }
  | 136 => some { desc := Tryd.t136.desc, size := 1, bytes := 8, zero := (.raw .nilFunc), code := none }
  | 138 => some { desc := Tryd.t138.desc, size := 1, bytes := 8, zero := (.raw .nilFunc), code := none }
  | 139 => some { desc := Tryd.t139.desc, size := 1, bytes := 8, zero := (.raw .nilFunc), code := none }
  | 140 => some { desc := Tryd.t140.desc, size := 1, bytes := 8, zero := (.raw .nilFunc), code := none }
  | 141 => some { desc := Tryd.t141.desc, size := 1, bytes := 8, zero := (.raw .nilFunc), code := none }
  | 142 => some { desc := Tryd.t141.desc, size := 1, bytes := 8, zero := (.raw .nilFunc), code := none }
  | 143 => some { desc := Tryd.t143.desc, size := 1, bytes := 8, zero := (.raw .nilFunc), code := none }
  | 144 => some { desc := Tryd.t144.desc, size := 1, bytes := 8, zero := (.raw .nilFunc), code := none }
  | 145 => some { desc := (.array 4 3), size := 4, bytes := 32, zero := (.arr 4 (.int .i64) (List.replicate 4 (0 : Int))), code := (some (.arr 4 (.int .i64))) }
  | 146 => some { desc := Tryd.t146.desc, size := 1, bytes := 8, zero := (.raw .nilFunc), code := none }
  | 147 => some { desc := Tryd.t146.desc, size := 1, bytes := 8, zero := (.raw .nilFunc), code := none }
  | 148 => some { desc := Tryd.t148.desc, size := 1, bytes := 8, zero := (.raw .nilFunc), code := none }
  | 149 => some { desc := (.map 5 3), size := 1, bytes := 8, zero := (.raw (.map none)), code := none }
  | 150 => some { desc := Tryd.t150.desc, size := 1, bytes := 8, zero := (.raw .nilFunc), code := none }
  | 151 => some { desc := Tryd.t151.desc, size := 1, bytes := 8, zero := (.raw .nilFunc), code := none }
  | 152 => some { desc := Tryd.t152.desc, size := 1, bytes := 8, zero := (.raw .nilFunc), code := none }
  | 153 => some { desc := Tryd.t153.desc, size := 1, bytes := 8, zero := (.raw .nilFunc), code := none }
  | 154 => some { desc := Tryd.t154.desc, size := 1, bytes := 8, zero := (.raw .nilFunc), code := none }
  | 155 => some { desc := Tryd.t155.desc, size := 1, bytes := 8, zero := (.raw .nilFunc), code := none }
  | 156 => some { desc := (.map 5 153), size := 1, bytes := 8, zero := (.raw (.map none)), code := none }
  | 158 => some { desc := Tryd.t158.desc, size := 1, bytes := 8, zero := (.raw .nilFunc), code := none }
  | 159 => some { desc := (.array 32 5), size := 32, bytes := 32, zero := (.arr 32 (.int .u8) (List.replicate 32 (0 : Int))), code := (some (.arr 32 (.int .u8))) }
  | 160 => some { desc := (.array 64 5), size := 64, bytes := 64, zero := (.arr 64 (.int .u8) (List.replicate 64 (0 : Int))), code := (some (.arr 64 (.int .u8))) }
  | 161 => some { desc := Tryd.t161.desc, size := 1, bytes := 8, zero := (.raw .nilFunc), code := none }
  | 162 => some { desc := Tryd.t162.desc, size := 1, bytes := 8, zero := (.raw .nilFunc), code := none }
  | 163 => some { desc := (.array 4 48), size := 4, bytes := 96, zero := (.arr 4 (.slice CForm) (List.replicate 4 ([] : List DForm))), code := (some (.arr 4 (.slice CForm))) }
  | 164 => some { desc := Tryd.t164.desc, size := 1, bytes := 8, zero := (.raw .nilFunc), code := none }
  | 165 => some { desc := Tryd.t165.desc, size := 1, bytes := 8, zero := (.raw .nilFunc), code := none }
  | 166 => some { desc := Tryd.t166.desc, size := 1, bytes := 8, zero := (.raw .nilFunc), code := none }
  | 167 => some { desc := Tryd.t167.desc, size := 1, bytes := 8, zero := (.raw .nilFunc), code := none }
  | 168 => some { desc := Tryd.t168.desc, size := 3, bytes := 24, zero := (.agg [1, 1, 1] [(.int .u8 0), (.int .i64 0), (.int .u8 0)]), code := (some (.st (.int .u8) (.st (.int .i64) (.st1 (.int .u8))))) }
  | 169 => some { desc := (.array 6 168), size := 18, bytes := 144, zero := (.arr 6 (.st (.int .u8) (.st (.int .i64) (.st1 (.int .u8)))) (List.replicate 6 (0, (0, 0)))), code := (some (.arr 6 (.st (.int .u8) (.st (.int .i64) (.st1 (.int .u8)))))) }
  | 170 => some { desc := Tryd.t170.desc, size := 1, bytes := 8, zero := (.raw .nilFunc), code := none }
  | 171 => some { desc := Tryd.t171.desc, size := 1, bytes := 8, zero := (.raw .nilFunc), code := none }
  | 172 => some { desc := Tryd.t172.desc, size := 1, bytes := 8, zero := (.raw .nilFunc), code := none }
  | 173 => some { desc := Tryd.t173.desc, size := 1, bytes := 8, zero := (.raw .nilFunc), code := none }
  | 174 => some { desc := Tryd.t174.desc, size := 1, bytes := 8, zero := (.raw .nilFunc), code := none }
  | 175 => some { desc := (.slice 48), size := 1, bytes := 24, zero := (.raw (.slice none 0 0)), code := (some (.slice (.slice CForm))) }
  | 176 => some { desc := Tryd.t176.desc, size := 1, bytes := 8, zero := (.raw .nilFunc), code := none }
  | 177 => some { desc := Tryd.t177.desc, size := 1, bytes := 8, zero := (.raw .nilFunc), code := none }
  | 178 => some { desc := Tryd.t178.desc, size := 1, bytes := 8, zero := (.raw .nilFunc), code := none }
  | 179 => some { desc := Tryd.t179.desc, size := 4, bytes := 40, zero := (.agg [1, 1, 1, 1] [(.raw (.pointer none)), (.raw (.pointer none)), (.raw (.pointer none)), (.str ByteArray.empty)]), code := none }
  | 180 => some { desc := Tryd.t179.desc, size := 4, bytes := 40, zero := (.agg [1, 1, 1, 1] [(.raw (.pointer none)), (.raw (.pointer none)), (.raw (.pointer none)), (.str ByteArray.empty)]), code := none }
  | 181 => some { desc := (.array 0 16), size := 0, bytes := 0, zero := (.agg [] []), code := none }
  | 184 => some { desc := Tryd.t184.desc, size := 1, bytes := 8, zero := (.raw .nilFunc), code := none }
  | 185 => some { desc := (.int .u8), size := 1, bytes := 1, zero := (.int .u8 0), code := (some (.int .u8)) }
  | 186 => some { desc := (.int .u8), size := 1, bytes := 1, zero := (.int .u8 0), code := (some (.int .u8)) }
  | 187 => some { desc := Tryd.t187.desc, size := 1, bytes := 8, zero := (.raw .nilFunc), code := none }
  | 188 => some { desc := (.pointer 5), size := 1, bytes := 8, zero := (.raw (.pointer none)), code := none }
  | 189 => some { desc := (.int .i32), size := 1, bytes := 4, zero := (.int .i32 0), code := (some (.int .i32)) }
  | 190 => some { desc := (.int .i32), size := 1, bytes := 4, zero := (.int .i32 0), code := (some (.int .i32)) }
  | 191 => some { desc := Tryd.t191.desc, size := 11, bytes := 48, zero := (.agg [1, 1, 1, 1, 1, 1, 1, 1, 1, 1, 1] [(.int .u64 0), (.int .u64 0), (.int .u32 0), (.int .u8 0), (.int .u8 0), (.int .u8 0), (.int .u8 0), (.raw .nilFunc), (.raw (.pointer none)), (.int .i32 0), (.int .i32 0)]), code := none }
  | 192 => some { desc := Tryd.t191.desc, size := 11, bytes := 48, zero := (.agg [1, 1, 1, 1, 1, 1, 1, 1, 1, 1, 1] [(.int .u64 0), (.int .u64 0), (.int .u32 0), (.int .u8 0), (.int .u8 0), (.int .u8 0), (.int .u8 0), (.raw .nilFunc), (.raw (.pointer none)), (.int .i32 0), (.int .i32 0)]), code := none }
  | _ => none

theorem ty_ok : ∀ t d, ty t = some d → d.ok Tryd.prog t := by
  intro t d h
  unfold ty at h
  split at h
  · cases h; exact ATy.ok_of (i := Tryd.t1) Tryd.underlying1 Tryd.type1 rfl (by kernel_rfl)
  · cases h; exact ATy.ok_of (i := Tryd.t2) Tryd.underlying2 Tryd.type2 rfl (by kernel_rfl)
  · cases h; exact ATy.ok_of (i := Tryd.t3) Tryd.underlying3 Tryd.type3 rfl (by kernel_rfl)
  · cases h; exact ATy.ok_of (i := Tryd.t4) Tryd.underlying4 Tryd.type4 rfl (by kernel_rfl)
  · cases h; exact ATy.ok_of (i := Tryd.t5) Tryd.underlying5 Tryd.type5 rfl (by kernel_rfl)
  · cases h; exact ATy.ok_of (i := Tryd.t6) Tryd.underlying6 Tryd.type6 rfl (by kernel_rfl)
  · cases h; exact ATy.ok_of (i := Tryd.t7) Tryd.underlying7 Tryd.type7 rfl (by kernel_rfl)
  · cases h; exact ATy.ok_of (i := Tryd.t8) Tryd.underlying8 Tryd.type8 rfl (by kernel_rfl)
  · cases h; exact ATy.ok_of (i := Tryd.t9) Tryd.underlying9 Tryd.type9 rfl (by kernel_rfl)
  · cases h; exact ATy.ok_of (i := Tryd.t10) Tryd.underlying10 Tryd.type10 rfl (by kernel_rfl)
  · cases h; exact ATy.ok_of (i := Tryd.t11) Tryd.underlying11 Tryd.type11 rfl (by kernel_rfl)
  · cases h; exact ATy.ok_of (i := Tryd.t12) Tryd.underlying12 Tryd.type12 rfl (by kernel_rfl)
  · cases h; exact ATy.ok_of (i := Tryd.t13) Tryd.underlying13 Tryd.type13 rfl (by kernel_rfl)
  · cases h; exact ATy.ok_of (i := Tryd.t14) Tryd.underlying14 Tryd.type14 rfl (by kernel_rfl)
  · cases h; exact ATy.ok_of (i := Tryd.t15) Tryd.underlying15 Tryd.type15 rfl (by kernel_rfl)
  · cases h; exact ATy.ok_of (i := Tryd.t16) Tryd.underlying16 Tryd.type16 rfl (by kernel_rfl)
  · cases h; exact ATy.ok_of (i := Tryd.t17) Tryd.underlying17 Tryd.type17 rfl (by kernel_rfl)
  · cases h; exact ATy.ok_of (i := Tryd.t18) Tryd.underlying18 Tryd.type18 rfl (by kernel_rfl)
  · cases h; exact ATy.ok_of (i := Tryd.t19) Tryd.underlying19 Tryd.type19 rfl (by kernel_rfl)
  · cases h; exact ATy.ok_of (i := Tryd.t20) Tryd.underlying20 Tryd.type20 rfl (by kernel_rfl)
  · cases h; exact ATy.ok_of (i := Tryd.t21) Tryd.underlying21 Tryd.type21 rfl (by kernel_rfl)
  · cases h; exact ATy.ok_of (i := Tryd.t22) Tryd.underlying22 Tryd.type22 rfl (by kernel_rfl)
  · cases h; exact ATy.ok_of (i := Tryd.t23) Tryd.underlying23 Tryd.type23 rfl (by kernel_rfl)
  · cases h; exact ATy.ok_of (i := Tryd.t24) Tryd.underlying24 Tryd.type24 rfl (by kernel_rfl)
  · cases h; exact ATy.ok_of (i := Tryd.t25) Tryd.underlying25 Tryd.type25 rfl (by kernel_rfl)
  · cases h; exact ATy.ok_of (i := Tryd.t26) Tryd.underlying26 Tryd.type26 rfl (by kernel_rfl)
  · cases h; exact ATy.ok_of (i := Tryd.t27) Tryd.underlying27 Tryd.type27 rfl (by kernel_rfl)
  · cases h; exact ATy.ok_of (i := Tryd.t28) Tryd.underlying28 Tryd.type28 rfl (by kernel_rfl)
  · cases h; exact ATy.ok_of (i := Tryd.t29) Tryd.underlying29 Tryd.type29 rfl (by kernel_rfl)
  · cases h; exact ATy.ok_of (i := Tryd.t31) Tryd.underlying31 Tryd.type31 rfl (by kernel_rfl)
  · cases h; exact ATy.ok_of (i := Tryd.t32) Tryd.underlying32 Tryd.type32 rfl (by kernel_rfl)
  · cases h; exact ATy.ok_of (i := Tryd.t33) Tryd.underlying33 Tryd.type33 rfl (by kernel_rfl)
  · cases h; exact ATy.ok_of (i := Tryd.t34) Tryd.underlying34 Tryd.type34 rfl (by kernel_rfl)
  · cases h; exact ATy.ok_of (i := Tryd.t35) Tryd.underlying35 Tryd.type35 rfl (by kernel_rfl)
  · cases h; exact ATy.ok_of (i := Tryd.t36) Tryd.underlying36 Tryd.type36 rfl (by kernel_rfl)
  · cases h; exact ATy.ok_of (i := Tryd.t37) Tryd.underlying37 Tryd.type37 rfl (by kernel_rfl)
  · cases h; exact ATy.ok_of (i := Tryd.t38) Tryd.underlying38 Tryd.type38 rfl (by kernel_rfl)
  · cases h; exact ATy.ok_of (i := Tryd.t39) Tryd.underlying39 Tryd.type39 rfl (by kernel_rfl)
  · cases h; exact ATy.ok_of (i := Tryd.t41) Tryd.underlying41 Tryd.type41 rfl (by kernel_rfl)
  · cases h; exact ATy.ok_of (i := Tryd.t42) Tryd.underlying42 Tryd.type42 rfl (by kernel_rfl)
  · cases h; exact ATy.ok_of (i := Tryd.t44) Tryd.underlying44 Tryd.type44 rfl (by kernel_rfl)
  · cases h; exact ATy.ok_of (i := Tryd.t45) Tryd.underlying45 Tryd.type45 rfl (by kernel_rfl)
  · cases h; exact ATy.ok_of (i := Tryd.t46) Tryd.underlying46 Tryd.type46 rfl (by kernel_rfl)
  · cases h; exact ATy.ok_of (i := Tryd.t47) Tryd.underlying47 Tryd.type47 rfl (by kernel_rfl)
  · cases h; exact ATy.ok_of (i := Tryd.t48) Tryd.underlying48 Tryd.type48 rfl (by kernel_rfl)
  · cases h; exact ATy.ok_of (i := Tryd.t49) Tryd.underlying49 Tryd.type49 rfl (by kernel_rfl)
  · cases h; exact ATy.ok_of (i := Tryd.t50) Tryd.underlying50 Tryd.type50 rfl (by kernel_rfl)
  · cases h; exact ATy.ok_of (i := Tryd.t51) Tryd.underlying51 Tryd.type51 rfl (by kernel_rfl)
  · cases h; exact ATy.ok_of (i := Tryd.t52) Tryd.underlying52 Tryd.type52 rfl (by kernel_rfl)
  · cases h; exact ATy.ok_of (i := Tryd.t53) Tryd.underlying53 Tryd.type53 rfl (by kernel_rfl)
  · cases h; exact ATy.ok_of (i := Tryd.t54) Tryd.underlying54 Tryd.type54 rfl (by kernel_rfl)
  · cases h; exact ATy.ok_of (i := Tryd.t55) Tryd.underlying55 Tryd.type55 rfl (by kernel_rfl)
  · cases h; exact ATy.ok_of (i := Tryd.t56) Tryd.underlying56 Tryd.type56 rfl (by kernel_rfl)
  · cases h; exact ATy.ok_of (i := Tryd.t57) Tryd.underlying57 Tryd.type57 rfl (by kernel_rfl)
  · cases h; exact ATy.ok_of (i := Tryd.t58) Tryd.underlying58 Tryd.type58 rfl (by kernel_rfl)
  · cases h; exact ATy.ok_of (i := Tryd.t59) Tryd.underlying59 Tryd.type59 rfl (by kernel_rfl)
  · cases h; exact ATy.ok_of (i := Tryd.t60) Tryd.underlying60 Tryd.type60 rfl (by kernel_rfl)
  · cases h; exact ATy.ok_of (i := Tryd.t61) Tryd.underlying61 Tryd.type61 rfl (by kernel_rfl)
  · cases h; exact ATy.ok_of (i := Tryd.t62) Tryd.underlying62 Tryd.type62 rfl (by kernel_rfl)
  · cases h; exact ATy.ok_of (i := Tryd.t63) Tryd.underlying63 Tryd.type63 rfl (by kernel_rfl)
  · cases h; exact ATy.ok_of (i := Tryd.t65) Tryd.underlying65 Tryd.type65 rfl (by kernel_rfl)
  · cases h; exact ATy.ok_of (i := Tryd.t66) Tryd.underlying66 Tryd.type66 rfl (by kernel_rfl)
  · cases h; exact ATy.ok_of (i := Tryd.t67) Tryd.underlying67 Tryd.type67 rfl (by kernel_rfl)
  · cases h; exact ATy.ok_of (i := Tryd.t69) Tryd.underlying69 Tryd.type69 rfl (by kernel_rfl)
  · cases h; exact ATy.ok_of (i := Tryd.t70) Tryd.underlying70 Tryd.type70 rfl (by kernel_rfl)
  · cases h; exact ATy.ok_of (i := Tryd.t71) Tryd.underlying71 Tryd.type71 rfl (by kernel_rfl)
  · cases h; exact ATy.ok_of (i := Tryd.t72) Tryd.underlying72 Tryd.type72 rfl (by kernel_rfl)
  · cases h; exact ATy.ok_of (i := Tryd.t74) Tryd.underlying74 Tryd.type74 rfl (by kernel_rfl)
  · cases h; exact ATy.ok_of (i := Tryd.t75) Tryd.underlying75 Tryd.type75 rfl (by kernel_rfl)
  · cases h; exact ATy.ok_of (i := Tryd.t76) Tryd.underlying76 Tryd.type76 rfl (by kernel_rfl)
  · cases h; exact ATy.ok_of (i := Tryd.t77) Tryd.underlying77 Tryd.type77 rfl (by kernel_rfl)
  · cases h; exact ATy.ok_of (i := Tryd.t79) Tryd.underlying79 Tryd.type79 rfl (by kernel_rfl)
  · cases h; exact ATy.ok_of (i := Tryd.t81) Tryd.underlying81 Tryd.type81 rfl (by kernel_rfl)
  · cases h; exact ATy.ok_of (i := Tryd.t82) Tryd.underlying82 Tryd.type82 rfl (by kernel_rfl)
  · cases h; exact ATy.ok_of (i := Tryd.t84) Tryd.underlying84 Tryd.type84 rfl (by kernel_rfl)
  · cases h; exact ATy.ok_of (i := Tryd.t85) Tryd.underlying85 Tryd.type85 rfl (by kernel_rfl)
  · cases h; exact ATy.ok_of (i := Tryd.t86) Tryd.underlying86 Tryd.type86 rfl (by kernel_rfl)
  · cases h; exact ATy.ok_of (i := Tryd.t87) Tryd.underlying87 Tryd.type87 rfl (by kernel_rfl)
  · cases h; exact ATy.ok_of (i := Tryd.t88) Tryd.underlying88 Tryd.type88 rfl (by kernel_rfl)
  · cases h; exact ATy.ok_of (i := Tryd.t89) Tryd.underlying89 Tryd.type89 rfl (by kernel_rfl)
  · cases h; exact ATy.ok_of (i := Tryd.t90) Tryd.underlying90 Tryd.type90 rfl (by kernel_rfl)
  · cases h; exact ATy.ok_of (i := Tryd.t92) Tryd.underlying92 Tryd.type92 rfl (by kernel_rfl)
  · cases h; exact ATy.ok_of (i := Tryd.t93) Tryd.underlying93 Tryd.type93 rfl (by kernel_rfl)
  · cases h; exact ATy.ok_of (i := Tryd.t94) Tryd.underlying94 Tryd.type94 rfl (by kernel_rfl)
  · cases h; exact ATy.ok_of (i := Tryd.t95) Tryd.underlying95 Tryd.type95 rfl (by kernel_rfl)
  · cases h; exact ATy.ok_of (i := Tryd.t96) Tryd.underlying96 Tryd.type96 rfl (by kernel_rfl)
  · cases h; exact ATy.ok_of (i := Tryd.t97) Tryd.underlying97 Tryd.type97 rfl (by kernel_rfl)
  · cases h; exact ATy.ok_of (i := Tryd.t98) Tryd.underlying98 Tryd.type98 rfl (by kernel_rfl)
  · cases h; exact ATy.ok_of (i := Tryd.t99) Tryd.underlying99 Tryd.type99 rfl (by kernel_rfl)
  · cases h; exact ATy.ok_of (i := Tryd.t100) Tryd.underlying100 Tryd.type100 rfl (by kernel_rfl)
  · cases h; exact ATy.ok_of (i := Tryd.t101) Tryd.underlying101 Tryd.type101 rfl (by kernel_rfl)
  · cases h; exact ATy.ok_of (i := Tryd.t102) Tryd.underlying102 Tryd.type102 rfl (by kernel_rfl)
  · cases h; exact ATy.ok_of (i := Tryd.t103) Tryd.underlying103 Tryd.type103 rfl (by kernel_rfl)
  · cases h; exact ATy.ok_of (i := Tryd.t104) Tryd.underlying104 Tryd.type104 rfl (by kernel_rfl)
  · cases h; exact ATy.ok_of (i := Tryd.t106) Tryd.underlying106 Tryd.type106 rfl (by kernel_rfl)
  · cases h; exact ATy.ok_of (i := Tryd.t107) Tryd.underlying107 Tryd.type107 rfl (by kernel_rfl)
  · cases h; exact ATy.ok_of (i := Tryd.t108) Tryd.underlying108 Tryd.type108 rfl (by kernel_rfl)
  · cases h; exact ATy.ok_of (i := Tryd.t109) Tryd.underlying109 Tryd.type109 rfl (by kernel_rfl)
  · cases h; exact ATy.ok_of (i := Tryd.t110) Tryd.underlying110 Tryd.type110 rfl (by kernel_rfl)
  · cases h; exact ATy.ok_of (i := Tryd.t111) Tryd.underlying111 Tryd.type111 rfl (by kernel_rfl)
  · cases h; exact ATy.ok_of (i := Tryd.t112) Tryd.underlying112 Tryd.type112 rfl (by kernel_rfl)
  · cases h; exact ATy.ok_of (i := Tryd.t113) Tryd.underlying113 Tryd.type113 rfl (by kernel_rfl)
  · cases h; exact ATy.ok_of (i := Tryd.t114) Tryd.underlying114 Tryd.type114 rfl (by kernel_rfl)
  · cases h; exact ATy.ok_of (i := Tryd.t115) Tryd.underlying115 Tryd.type115 rfl (by kernel_rfl)
  · cases h; exact ATy.ok_of (i := Tryd.t117) Tryd.underlying117 Tryd.type117 rfl (by kernel_rfl)
  · cases h; exact ATy.ok_of (i := Tryd.t118) Tryd.underlying118 Tryd.type118 rfl (by kernel_rfl)
  · cases h; exact ATy.ok_of (i := Tryd.t119) Tryd.underlying119 Tryd.type119 rfl (by kernel_rfl)
  · cases h; exact ATy.ok_of (i := Tryd.t121) Tryd.underlying121 Tryd.type121 rfl (by kernel_rfl)
  · cases h; exact ATy.ok_of (i := Tryd.t122) Tryd.underlying122 Tryd.type122 rfl (by kernel_rfl)
  · cases h; exact ATy.ok_of (i := Tryd.t123) Tryd.underlying123 Tryd.type123 rfl (by kernel_rfl)
  · cases h; exact ATy.ok_of (i := Tryd.t124) Tryd.underlying124 Tryd.type124 rfl (by kernel_rfl)
  · cases h; exact ATy.ok_of (i := Tryd.t125) Tryd.underlying125 Tryd.type125 rfl (by kernel_rfl)
  · cases h; exact ATy.ok_of (i := Tryd.t126) Tryd.underlying126 Tryd.type126 rfl (by kernel_rfl)
  · cases h; exact ATy.ok_of (i := Tryd.t127) Tryd.underlying127 Tryd.type127 rfl (by kernel_rfl)
  · cases h; exact ATy.ok_of (i := Tryd.t128) Tryd.underlying128 Tryd.type128 rfl (by kernel_rfl)
  · cases h; exact ATy.ok_of (i := Tryd.t129) Tryd.underlying129 Tryd.type129 rfl (by kernel_rfl)
  · cases h; exact ATy.ok_of (i := Tryd.t130) Tryd.underlying130 Tryd.type130 rfl (by kernel_rfl)
  · cases h; exact ATy.ok_of (i := Tryd.t131) Tryd.underlying131 Tryd.type131 rfl (by kernel_rfl)
  · cases h; exact ATy.ok_of (i := Tryd.t132) Tryd.underlying132 Tryd.type132 rfl (by kernel_rfl)
  · cases h; exact ATy.ok_of (i := Tryd.t133) Tryd.underlying133 Tryd.type133 rfl (by kernel_rfl)
  · cases h; exact ATy.ok_of (i := Tryd.t134) Tryd.underlying134 Tryd.type134 rfl (by kernel_rfl)
  · cases h; exact ATy.ok_of (i := Tryd.t135) Tryd.underlying135 Tryd.type135 rfl (by kernel_rfl)
  · cases h; exact ATy.ok_of (i := Tryd.t136) Tryd.underlying136 Tryd.type136 rfl (by kernel_rfl)
  · cases h; exact ATy.ok_of (i := Tryd.t138) Tryd.underlying138 Tryd.type138 rfl (by kernel_rfl)
  · cases h; exact ATy.ok_of (i := Tryd.t139) Tryd.underlying139 Tryd.type139 rfl (by kernel_rfl)
  · cases h; exact ATy.ok_of (i := Tryd.t140) Tryd.underlying140 Tryd.type140 rfl (by kernel_rfl)
  · cases h; exact ATy.ok_of (i := Tryd.t141) Tryd.underlying141 Tryd.type141 rfl (by kernel_rfl)
  · cases h; exact ATy.ok_of (i := Tryd.t142) Tryd.underlying142 Tryd.type142 rfl (by kernel_rfl)
  · cases h; exact ATy.ok_of (i := Tryd.t143) Tryd.underlying143 Tryd.type143 rfl (by kernel_rfl)
  · cases h; exact ATy.ok_of (i := Tryd.t144) Tryd.underlying144 Tryd.type144 rfl (by kernel_rfl)
  · cases h; exact ATy.ok_of (i := Tryd.t145) Tryd.underlying145 Tryd.type145 rfl (by kernel_rfl)
  · cases h; exact ATy.ok_of (i := Tryd.t146) Tryd.underlying146 Tryd.type146 rfl (by kernel_rfl)
  · cases h; exact ATy.ok_of (i := Tryd.t147) Tryd.underlying147 Tryd.type147 rfl (by kernel_rfl)
  · cases h; exact ATy.ok_of (i := Tryd.t148) Tryd.underlying148 Tryd.type148 rfl (by kernel_rfl)
  · cases h; exact ATy.ok_of (i := Tryd.t149) Tryd.underlying149 Tryd.type149 rfl (by kernel_rfl)
  · cases h; exact ATy.ok_of (i := Tryd.t150) Tryd.underlying150 Tryd.type150 rfl (by kernel_rfl)
  · cases h; exact ATy.ok_of (i := Tryd.t151) Tryd.underlying151 Tryd.type151 rfl (by kernel_rfl)
  · cases h; exact ATy.ok_of (i := Tryd.t152) Tryd.underlying152 Tryd.type152 rfl (by kernel_rfl)
  · cases h; exact ATy.ok_of (i := Tryd.t153) Tryd.underlying153 Tryd.type153 rfl (by kernel_rfl)
  · cases h; exact ATy.ok_of (i := Tryd.t154) Tryd.underlying154 Tryd.type154 rfl (by kernel_rfl)
  · cases h; exact ATy.ok_of (i := Tryd.t155) Tryd.underlying155 Tryd.type155 rfl (by kernel_rfl)
  · cases h; exact ATy.ok_of (i := Tryd.t156) Tryd.underlying156 Tryd.type156 rfl (by kernel_rfl)
  · cases h; exact ATy.ok_of (i := Tryd.t158) Tryd.underlying158 Tryd.type158 rfl (by kernel_rfl)
  · cases h; exact ATy.ok_of (i := Tryd.t159) Tryd.underlying159 Tryd.type159 rfl (by kernel_rfl)
  · cases h; exact ATy.ok_of (i := Tryd.t160) Tryd.underlying160 Tryd.type160 rfl (by kernel_rfl)
  · cases h; exact ATy.ok_of (i := Tryd.t161) Tryd.underlying161 Tryd.type161 rfl (by kernel_rfl)
  · cases h; exact ATy.ok_of (i := Tryd.t162) Tryd.underlying162 Tryd.type162 rfl (by kernel_rfl)
  · cases h; exact ATy.ok_of (i := Tryd.t163) Tryd.underlying163 Tryd.type163 rfl (by kernel_rfl)
  · cases h; exact ATy.ok_of (i := Tryd.t164) Tryd.underlying164 Tryd.type164 rfl (by kernel_rfl)
  · cases h; exact ATy.ok_of (i := Tryd.t165) Tryd.underlying165 Tryd.type165 rfl (by kernel_rfl)
  · cases h; exact ATy.ok_of (i := Tryd.t166) Tryd.underlying166 Tryd.type166 rfl (by kernel_rfl)
  · cases h; exact ATy.ok_of (i := Tryd.t167) Tryd.underlying167 Tryd.type167 rfl (by kernel_rfl)
  · cases h; exact ATy.ok_of (i := Tryd.t168) Tryd.underlying168 Tryd.type168 rfl (by kernel_rfl)
  · cases h; exact ATy.ok_of (i := Tryd.t169) Tryd.underlying169 Tryd.type169 rfl (by kernel_rfl)
  · cases h; exact ATy.ok_of (i := Tryd.t170) Tryd.underlying170 Tryd.type170 rfl (by kernel_rfl)
  · cases h; exact ATy.ok_of (i := Tryd.t171) Tryd.underlying171 Tryd.type171 rfl (by kernel_rfl)
  · cases h; exact ATy.ok_of (i := Tryd.t172) Tryd.underlying172 Tryd.type172 rfl (by kernel_rfl)
  · cases h; exact ATy.ok_of (i := Tryd.t173) Tryd.underlying173 Tryd.type173 rfl (by kernel_rfl)
  · cases h; exact ATy.ok_of (i := Tryd.t174) Tryd.underlying174 Tryd.type174 rfl (by kernel_rfl)
  · cases h; exact ATy.ok_of (i := Tryd.t175) Tryd.underlying175 Tryd.type175 rfl (by kernel_rfl)
  · cases h; exact ATy.ok_of (i := Tryd.t176) Tryd.underlying176 Tryd.type176 rfl (by kernel_rfl)
  · cases h; exact ATy.ok_of (i := Tryd.t177) Tryd.underlying177 Tryd.type177 rfl (by kernel_rfl)
  · cases h; exact ATy.ok_of (i := Tryd.t178) Tryd.underlying178 Tryd.type178 rfl (by kernel_rfl)
  · cases h; exact ATy.ok_of (i := Tryd.t179) Tryd.underlying179 Tryd.type179 rfl (by kernel_rfl)
  · cases h; exact ATy.ok_of (i := Tryd.t180) Tryd.underlying180 Tryd.type180 rfl (by kernel_rfl)
  · cases h; exact ATy.ok_of (i := Tryd.t181) Tryd.underlying181 Tryd.type181 rfl (by kernel_rfl)
  · cases h; exact ATy.ok_of (i := Tryd.t184) Tryd.underlying184 Tryd.type184 rfl (by kernel_rfl)
  · cases h; exact ATy.ok_of (i := Tryd.t185) Tryd.underlying185 Tryd.type185 rfl (by kernel_rfl)
  · cases h; exact ATy.ok_of (i := Tryd.t186) Tryd.underlying186 Tryd.type186 rfl (by kernel_rfl)
  · cases h; exact ATy.ok_of (i := Tryd.t187) Tryd.underlying187 Tryd.type187 rfl (by kernel_rfl)
  · cases h; exact ATy.ok_of (i := Tryd.t188) Tryd.underlying188 Tryd.type188 rfl (by kernel_rfl)
  · cases h; exact ATy.ok_of (i := Tryd.t189) Tryd.underlying189 Tryd.type189 rfl (by kernel_rfl)
  · cases h; exact ATy.ok_of (i := Tryd.t190) Tryd.underlying190 Tryd.type190 rfl (by kernel_rfl)
  · cases h; exact ATy.ok_of (i := Tryd.t191) Tryd.underlying191 Tryd.type191 rfl (by kernel_rfl)
  · cases h; exact ATy.ok_of (i := Tryd.t192) Tryd.underlying192 Tryd.type192 rfl (by kernel_rfl)
  · cases h

noncomputable def fns : FuncId → Option Func
  | 3 => some Tryd.f3
  | 4 => some Tryd.f4
  | 5 => some Tryd.f5
  | 6 => some Tryd.f6
  | 7 => some Tryd.f7
  | 13 => some Tryd.f13
  | 14 => some Tryd.f14
  | 15 => some Tryd.f15
  | 16 => some Tryd.f16
  | 17 => some Tryd.f17
  | 18 => some Tryd.f18
  | 19 => some Tryd.f19
  | 20 => some Tryd.f20
  | 21 => some Tryd.f21
  | 22 => some Tryd.f22
  | 23 => some Tryd.f23
  | 24 => some Tryd.f24
  | 25 => some Tryd.f25
  | 33 => some Tryd.f33
  | 35 => some Tryd.f35
  | 36 => some Tryd.f36
  | 37 => some Tryd.f37
  | 38 => some Tryd.f38
  | 39 => some Tryd.f39
  | 40 => some Tryd.f40
  | 41 => some Tryd.f41
  | 42 => some Tryd.f42
  | 43 => some Tryd.f43
  | 44 => some Tryd.f44
  | 45 => some Tryd.f45
  | 46 => some Tryd.f46
  | 47 => some Tryd.f47
  | 48 => some Tryd.f48
  | 49 => some Tryd.f49
  | 50 => some Tryd.f50
  | 51 => some Tryd.f51
  | 52 => some Tryd.f52
  | 60 => some Tryd.f60
  | 62 => some Tryd.f62
  | 63 => some Tryd.f63
  | 64 => some Tryd.f64
  | 65 => some Tryd.f65
  | 66 => some Tryd.f66
  | 67 => some Tryd.f67
  | 68 => some Tryd.f68
  | 69 => some Tryd.f69
  | 70 => some Tryd.f70
  | 71 => some Tryd.f71
  | 72 => some Tryd.f72
  | 73 => some Tryd.f73
  | 74 => some Tryd.f74
  | 75 => some Tryd.f75
  | 76 => some Tryd.f76
  | 77 => some Tryd.f77
  | 78 => some Tryd.f78
  | 79 => some Tryd.f79
  | 80 => some Tryd.f80
  | 81 => some Tryd.f81
  | 82 => some Tryd.f82
  | 83 => some Tryd.f83
  | 84 => some Tryd.f84
  | 85 => some Tryd.f85
  | 86 => some Tryd.f86
  | 97 => some Tryd.f97
  | 98 => some Tryd.f98
  | 99 => some Tryd.f99
  | 100 => some Tryd.f100
  | 101 => some Tryd.f101
  | 102 => some Tryd.f102
  | 103 => some Tryd.f103
  | 104 => some Tryd.f104
  | 105 => some Tryd.f105
  | 106 => some Tryd.f106
  | 107 => some Tryd.f107
  | 108 => some Tryd.f108
  | 109 => some Tryd.f109
  | 117 => some Tryd.f117
  | 118 => some Tryd.f118
  | 119 => some Tryd.f119
  | 120 => some Tryd.f120
  | 121 => some Tryd.f121
  | 122 => some Tryd.f122
  | 123 => some Tryd.f123
  | 124 => some Tryd.f124
  | 125 => some Tryd.f125
  | 126 => some Tryd.f126
  | 127 => some Tryd.f127
  | 128 => some Tryd.f128
  | 129 => some Tryd.f129
  | 130 => some Tryd.f130
  | 131 => some Tryd.f131
  | 132 => some Tryd.f132
  | 133 => some Tryd.f133
  | 134 => some Tryd.f134
  | 135 => some Tryd.f135
  | 136 => some Tryd.f136
  | 137 => some Tryd.f137
  | 138 => some Tryd.f138
  | 139 => some Tryd.f139
  | 140 => some Tryd.f140
  | 141 => some Tryd.f141
  | 142 => some Tryd.f142
  | 143 => some Tryd.f143
  | 144 => some Tryd.f144
  | 145 => some Tryd.f145
  | 146 => some Tryd.f146
  | 147 => some Tryd.f147
  | 148 => some Tryd.f148
  | 149 => some Tryd.f149
  | 150 => some Tryd.f150
  | 151 => some Tryd.f151
  | 152 => some Tryd.f152
  | 153 => some Tryd.f153
  | 154 => some Tryd.f154
  | 155 => some Tryd.f155
  | 156 => some Tryd.f156
  | 157 => some Tryd.f157
  | 165 => some Tryd.f165
  | 166 => some Tryd.f166
  | _ => none

theorem fns_ok : ∀ f fn, fns f = some fn → Tryd.prog.funcs[f]? = some fn ∧ (fn.name == "runtime.NumGoroutine") = false := by
  intro f fn h
  unfold fns at h
  split at h
  · cases h; exact ⟨Tryd.func3, by kernel_rfl⟩
  · cases h; exact ⟨Tryd.func4, by kernel_rfl⟩
  · cases h; exact ⟨Tryd.func5, by kernel_rfl⟩
  · cases h; exact ⟨Tryd.func6, by kernel_rfl⟩
  · cases h; exact ⟨Tryd.func7, by kernel_rfl⟩
  · cases h; exact ⟨Tryd.func13, by kernel_rfl⟩
  · cases h; exact ⟨Tryd.func14, by kernel_rfl⟩
  · cases h; exact ⟨Tryd.func15, by kernel_rfl⟩
  · cases h; exact ⟨Tryd.func16, by kernel_rfl⟩
  · cases h; exact ⟨Tryd.func17, by kernel_rfl⟩
  · cases h; exact ⟨Tryd.func18, by kernel_rfl⟩
  · cases h; exact ⟨Tryd.func19, by kernel_rfl⟩
  · cases h; exact ⟨Tryd.func20, by kernel_rfl⟩
  · cases h; exact ⟨Tryd.func21, by kernel_rfl⟩
  · cases h; exact ⟨Tryd.func22, by kernel_rfl⟩
  · cases h; exact ⟨Tryd.func23, by kernel_rfl⟩
  · cases h; exact ⟨Tryd.func24, by kernel_rfl⟩
  · cases h; exact ⟨Tryd.func25, by kernel_rfl⟩
  · cases h; exact ⟨Tryd.func33, by kernel_rfl⟩
  · cases h; exact ⟨Tryd.func35, by kernel_rfl⟩
  · cases h; exact ⟨Tryd.func36, by kernel_rfl⟩
  · cases h; exact ⟨Tryd.func37, by kernel_rfl⟩
  · cases h; exact ⟨Tryd.func38, by kernel_rfl⟩
  · cases h; exact ⟨Tryd.func39, by kernel_rfl⟩
  · cases h; exact ⟨Tryd.func40, by kernel_rfl⟩
  · cases h; exact ⟨Tryd.func41, by kernel_rfl⟩
  · cases h; exact ⟨Tryd.func42, by kernel_rfl⟩
  · cases h; exact ⟨Tryd.func43, by kernel_rfl⟩
  · cases h; exact ⟨Tryd.func44, by kernel_rfl⟩
  · cases h; exact ⟨Tryd.func45, by kernel_rfl⟩
  · cases h; exact ⟨Tryd.func46, by kernel_rfl⟩
  · cases h; exact ⟨Tryd.func47, by kernel_rfl⟩
  · cases h; exact ⟨Tryd.func48, by kernel_rfl⟩
  · cases h; exact ⟨Tryd.func49, by kernel_rfl⟩
  · cases h; exact ⟨Tryd.func50, by kernel_rfl⟩
  · cases h; exact ⟨Tryd.func51, by kernel_rfl⟩
  · cases h; exact ⟨Tryd.func52, by kernel_rfl⟩
  · cases h; exact ⟨Tryd.func60, by kernel_rfl⟩
  · cases h; exact ⟨Tryd.func62, by kernel_rfl⟩
  · cases h; exact ⟨Tryd.func63, by kernel_rfl⟩
  · cases h; exact ⟨Tryd.func64, by kernel_rfl⟩
  · cases h; exact ⟨Tryd.func65, by kernel_rfl⟩
  · cases h; exact ⟨Tryd.func66, by kernel_rfl⟩
  · cases h; exact ⟨Tryd.func67, by kernel_rfl⟩
  · cases h; exact ⟨Tryd.func68, by kernel_rfl⟩
  · cases h; exact ⟨Tryd.func69, by kernel_rfl⟩
  · cases h; exact ⟨Tryd.func70, by kernel_rfl⟩
  · cases h; exact ⟨Tryd.func71, by kernel_rfl⟩
  · cases h; exact ⟨Tryd.func72, by kernel_rfl⟩
  · cases h; exact ⟨Tryd.func73, by kernel_rfl⟩
  · cases h; exact ⟨Tryd.func74, by kernel_rfl⟩
  · cases h; exact ⟨Tryd.func75, by kernel_rfl⟩
  · cases h; exact ⟨Tryd.func76, by kernel_rfl⟩
  · cases h; exact ⟨Tryd.func77, by kernel_rfl⟩
  · cases h; exact ⟨Tryd.func78, by kernel_rfl⟩
  · cases h; exact ⟨Tryd.func79, by kernel_rfl⟩
  · cases h; exact ⟨Tryd.func80, by kernel_rfl⟩
  · cases h; exact ⟨Tryd.func81, by kernel_rfl⟩
  · cases h; exact ⟨Tryd.func82, by kernel_rfl⟩
  · cases h; exact ⟨Tryd.func83, by kernel_rfl⟩
  · cases h; exact ⟨Tryd.func84, by kernel_rfl⟩
  · cases h; exact ⟨Tryd.func85, by kernel_rfl⟩
  · cases h; exact ⟨Tryd.func86, by kernel_rfl⟩
  · cases h; exact ⟨Tryd.func97, by kernel_rfl⟩
  · cases h; exact ⟨Tryd.func98, by kernel_rfl⟩
  · cases h; exact ⟨Tryd.func99, by kernel_rfl⟩
  · cases h; exact ⟨Tryd.func100, by kernel_rfl⟩
  · cases h; exact ⟨Tryd.func101, by kernel_rfl⟩
  · cases h; exact ⟨Tryd.func102, by kernel_rfl⟩
  · cases h; exact ⟨Tryd.func103, by kernel_rfl⟩
  · cases h; exact ⟨Tryd.func104, by kernel_rfl⟩
  · cases h; exact ⟨Tryd.func105, by kernel_rfl⟩
  · cases h; exact ⟨Tryd.func106, by kernel_rfl⟩
  · cases h; exact ⟨Tryd.func107, by kernel_rfl⟩
  · cases h; exact ⟨Tryd.func108, by kernel_rfl⟩
  · cases h; exact ⟨Tryd.func109, by kernel_rfl⟩
  · cases h; exact ⟨Tryd.func117, by kernel_rfl⟩
  · cases h; exact ⟨Tryd.func118, by kernel_rfl⟩
  · cases h; exact ⟨Tryd.func119, by kernel_rfl⟩
  · cases h; exact ⟨Tryd.func120, by kernel_rfl⟩
  · cases h; exact ⟨Tryd.func121, by kernel_rfl⟩
  · cases h; exact ⟨Tryd.func122, by kernel_rfl⟩
  · cases h; exact ⟨Tryd.func123, by kernel_rfl⟩
  · cases h; exact ⟨Tryd.func124, by kernel_rfl⟩
  · cases h; exact ⟨Tryd.func125, by kernel_rfl⟩
  · cases h; exact ⟨Tryd.func126, by kernel_rfl⟩
  · cases h; exact ⟨Tryd.func127, by kernel_rfl⟩
  · cases h; exact ⟨Tryd.func128, by kernel_rfl⟩
  · cases h; exact ⟨Tryd.func129, by kernel_rfl⟩
  · cases h; exact ⟨Tryd.func130, by kernel_rfl⟩
  · cases h; exact ⟨Tryd.func131, by kernel_rfl⟩
  · cases h; exact ⟨Tryd.func132, by kernel_rfl⟩
  · cases h; exact ⟨Tryd.func133, by kernel_rfl⟩
  · cases h; exact ⟨Tryd.func134, by kernel_rfl⟩
  · cases h; exact ⟨Tryd.func135, by kernel_rfl⟩
  · cases h; exact ⟨Tryd.func136, by kernel_rfl⟩
  · cases h; exact ⟨Tryd.func137, by kernel_rfl⟩
  · cases h; exact ⟨Tryd.func138, by kernel_rfl⟩
  · cases h; exact ⟨Tryd.func139, by kernel_rfl⟩
  · cases h; exact ⟨Tryd.func140, by kernel_rfl⟩
  · cases h; exact ⟨Tryd.func141, by kernel_rfl⟩
  · cases h; exact ⟨Tryd.func142, by kernel_rfl⟩
  · cases h; exact ⟨Tryd.func143, by kernel_rfl⟩
  · cases h; exact ⟨Tryd.func144, by kernel_rfl⟩
  · cases h; exact ⟨Tryd.func145, by kernel_rfl⟩
  · cases h; exact ⟨Tryd.func146, by kernel_rfl⟩
  · cases h; exact ⟨Tryd.func147, by kernel_rfl⟩
  · cases h; exact ⟨Tryd.func148, by kernel_rfl⟩
  · cases h; exact ⟨Tryd.func149, by kernel_rfl⟩
  · cases h; exact ⟨Tryd.func150, by kernel_rfl⟩
  · cases h; exact ⟨Tryd.func151, by kernel_rfl⟩
  · cases h; exact ⟨Tryd.func152, by kernel_rfl⟩
  · cases h; exact ⟨Tryd.func153, by kernel_rfl⟩
  · cases h; exact ⟨Tryd.func154, by kernel_rfl⟩
  · cases h; exact ⟨Tryd.func155, by kernel_rfl⟩
  · cases h; exact ⟨Tryd.func156, by kernel_rfl⟩
  · cases h; exact ⟨Tryd.func157, by kernel_rfl⟩
  · cases h; exact ⟨Tryd.func165, by kernel_rfl⟩
  · cases h; exact ⟨Tryd.func166, by kernel_rfl⟩
  · cases h

theorem mixed : Tryd.prog.follows .mixedOrders = true := by kernel_rfl

noncomputable def glob : Nat → Option AV
  | 1 => some (.arr 32 (.int .u8) [0, 1, 28, 2, 29, 14, 24, 3, 30, 22, 20, 15, 25, 17, 4, 8, 31, 27, 13, 23, 21, 19, 16, 7, 26, 12, 18, 6, 11, 5, 10, 9])
  | 2 => some (.arr 64 (.int .u8) [0, 1, 56, 2, 57, 49, 28, 3, 61, 58, 42, 50, 38, 29, 17, 4, 62, 47, 59, 36, 45, 43, 51, 22, 53, 39, 33, 30, 24, 18, 12, 5, 63, 55, 48, 27, 60, 41, 37, 16, 46, 35, 44, 21, 52, 32, 23, 11, 54, 26, 40, 15, 34, 20, 31, 10, 25, 14, 19, 9, 13, 8, 7, 6])
  | _ => none

def sched : FuncId → Nat → Option Sch
  | 14, 8 => some (.one 0 (.one 1 (.one 3 (.two 2 4 (.one 5 (.one 6 (.one 4 (.one 7 .fin)))) (.one 2 (.one 5 (.one 6 (.one 7 .fin))))))))
  | 14, 4 => some (.one 0 (.one 1 (.one 2 (.one 3 (.one 4 (.one 5 (.two 6 7 (.one 7 (.one 8 (.one 9 .fin))) (.one 6 (.one 8 (.one 9 .fin))))))))))
  | 25, 14 => some (.one 0 (.one 1 (.one 2 (.one 3 (.one 4 (.one 5 (.one 6 (.one 7 (.one 8 (.one 9 (.one 10 (.one 11 (.two 12 13 (.one 13 (.one 14 (.one 15 (.one 16 (.one 17 .fin))))) (.one 12 (.one 14 (.one 15 (.one 16 (.one 17 .fin))))))))))))))))))
  | 39, 7 => some (.one 0 (.one 1 (.one 2 (.one 3 (.one 4 (.one 5 (.one 7 (.one 8 (.one 9 (.one 10 (.one 11 (.one 6 (.one 12 (.one 13 (.one 14 .fin)))))))))))))))
  | 44, 6 => some (.one 0 (.one 1 (.one 2 (.one 3 (.one 4 (.one 5 (.one 6 (.one 8 (.one 9 (.one 10 (.one 11 (.one 12 (.one 13 (.one 7 (.one 14 (.one 15 (.one 16 .fin)))))))))))))))))
  | 15, 7 => some (.one 0 (.one 1 (.one 2 (.one 3 (.one 4 (.one 5 (.two 6 7 (.one 7 (.one 8 (.one 9 .fin))) (.one 6 (.one 8 (.one 9 .fin))))))))))
  | _, _ => none
def split : FuncId → Nat → Option (Nat × List Step × Nat)
  | 39, 21 => some (10, [], 5)
  | _, _ => none
def exact : FuncId → Bool
  | 41 => true
  | 74 => true
  | _ => false
def apart : FuncId → Bool
  | _ => false
theorem apart_ok : ∀ f, apart f = true → ApartOk Tryd.prog f := by
  intro f h
  unfold apart at h
  split at h
  · cases h
noncomputable def env (sp : FuncId → Option Spec) (mk : FuncId → Nat → Option (List Nat)) : Env := { P := Tryd.prog, ty := ty, fns := fns, glob := glob, spec := sp, mask := mk, exact := exact, apart := apart, split := split, sched := sched }
noncomputable abbrev env0 : Env := env (fun _ => none) (fun _ _ => none)
theorem valid (sp : FuncId → Option Spec) (mk : FuncId → Nat → Option (List Nat)) : (env sp mk).Valid := ⟨ty_ok, fns_ok, mixed, apart_ok⟩
end Go.Eng.RE
end
section
/- The two tables that encode's laws lay. -/
namespace Go.Eng.RE
open Go.Proofs Go.Eng Go.RowKit

def tab32 : List Int := [0, 1, 28, 2, 29, 14, 24, 3, 30, 22, 20, 15, 25, 17, 4, 8, 31, 27, 13, 23, 21, 19, 16, 7, 26, 12, 18, 6, 11, 5, 10, 9]
def tab64 : List Int := [0, 1, 56, 2, 57, 49, 28, 3, 61, 58, 42, 50, 38, 29, 17, 4, 62, 47, 59, 36, 45, 43, 51, 22, 53, 39, 33, 30, 24, 18, 12, 5, 63, 55, 48, 27, 60, 41, 37, 16, 46, 35, 44, 21, 52, 32, 23, 11, 54, 26, 40, 15, 34, 20, 31, 10, 25, 14, 19, 9, 13, 8, 7, 6]

theorem laid_two {W : World} (hL : laidMet Tryd.prog [("math/bits.deBruijn32tab", Lib.tabData .u8 tab32), ("math/bits.deBruijn64tab", Lib.tabData .u8 tab64)] W) : GlobRep env0 ⟨W, protAll W, []⟩ := by
  have h := Lib.tabIs_of_head (g := 1) (by kernel_rfl) (by kernel_rfl) Tryd.underlying159 Tryd.underlying5 (by kernel_rfl) (by kernel_rfl) hL
  have h' := Lib.tabIs_of_head (g := 2) (by kernel_rfl) (by kernel_rfl) Tryd.underlying160 Tryd.underlying5 (by kernel_rfl) (by kernel_rfl) (laidMet.tail hL)
  have hg : Tryd.prog.globalNamed "math/bits.deBruijn32tab" = some 1 := by kernel_rfl
  have hg' : Tryd.prog.globalNamed "math/bits.deBruijn64tab" = some 2 := by kernel_rfl
  unfold Lib.TabIs World.var? at h h'
  rw [hg] at h
  rw [hg'] at h'
  simp only [Option.bind_some] at h h'
  intro g v e
  have e : glob g = some v := e
  unfold glob at e
  split at e
  · cases e
    split at h
    · rename_i cs' t fz hh
      simp only [Option.some.injEq] at h
      subst h
      refine ⟨(tab32.map fun z => Value.int .u8 z).toArray, t, fz, tab32.map fun z => Value.int .u8 z, hh, fun ι' => ground_ok ι' _ _ (by kernel_rfl), ?_⟩
      intro j v hj
      simpa using hj
    · cases h
  · cases e
    split at h'
    · rename_i cs' t fz hh
      simp only [Option.some.injEq] at h'
      subst h'
      refine ⟨(tab64.map fun z => Value.int .u8 z).toArray, t, fz, tab64.map fun z => Value.int .u8 z, hh, fun ι' => ground_ok ι' _ _ (by kernel_rfl), ?_⟩
      intro j v hj
      simpa using hj
    · cases h'
  · cases e
end Go.Eng.RE
end
section
/- Functions of this program, written out. -/
namespace Go.Eng.RE
open Go.Proofs Go.Eng
set_option maxRecDepth 100000

/-! ### slices.Index[[]uint8,uint8] -/
inductive J117 where
  | h0 (v2 : Int) (v3 : Int)
noncomputable def tree117 (x : ((List Int) × Int)) : Tr (J117 ⊕ Int) :=
  .ret (.inl (.h0 (x.1.length : Int) 0))
noncomputable def step117 (x : ((List Int) × Int)) : J117 → Tr (J117 ⊕ Int)
  | .h0 v2 v3 =>
  .ite (ilt v3 v2) (
  .need ((0 : Int) ≤ v3) <|
  .need (v3 < (x.1.length : Int)) <|
  .ite (ieq x.2 (rdc (.int .u8) x.1 (v3).toNat)) (
  .ret (.inr v3)) (
  .ret (.inl (.h0 v2 (iadd .i64 v3 1))))) (
  .ret (.inr (-1)))
noncomputable def head117 (x : ((List Int) × Int)) : J117 → Head
  | .h0 v2 v3 =>
  { fr := { id := 117, kind := .top, T := [(.fsl (.int .u8) x.1), (.int .u8 x.2)] ++ List.replicate 5 .any ++ [(.int .i64 v2), (.int .i64 v3)] ++ List.replicate 10 .any, items := [.lp (subc [1, 0, 1, 0, 0] (bodyOf Tryd.f117)), .blk 0, .code (subc [1, 1] (bodyOf Tryd.f117))], D := [], base := 0 },
    stk := [],
    H := [] }
noncomputable def stop117 : FuncId → Nat → Nat → Option Cut
  | 117, 0, 0 => some { tmps := [0, 1, 7, 8], loops := [], dead := [], stk := [] }
  | _, _, _ => none
noncomputable def fn117 (x : ((List Int) × Int)) : Int := endVal (TC.dflt (.int .i64)) (step117 x) (tree117 x)
def pre117 (x : ((List Int) × Int)) : Prop := ∃ r, Ends (step117 x) r (tree117 x)
noncomputable def spec117 : Spec := { dom := (.st (.slice (.int .u8)) (.st1 (.int .u8))), cod := (.int .i64), n := 1, pre := pre117, f := fn117 }
noncomputable def need117 : FuncId → Option Spec
  | _ => none
theorem need117_ok : ∀ f sp, need117 f = some sp → SpecOk env0 f sp := by
  intro f sp h
  unfold need117 at h
  split at h
  · cases h
theorem run117 (W : Cfg) (Q : Int → Prop) (x : ((List Int) × Int)) : run (env need117 (fun _ _ => none)) stop117 (finS spec117 Q) W 100000 (startFr 117 Tryd.f117 (bodyOf Tryd.f117) (argsOf (.st (.slice (.int .u8)) (.st1 (.int .u8))) x)) [] [] = (tree117 x).wp (kont W Q (head117 x)) := by kernel_rfl
theorem run117h0 (W : Cfg) (Q : Int → Prop) (x : ((List Int) × Int)) (v2 : Int) (v3 : Int) : run (env need117 (fun _ _ => none)) stop117 (finS spec117 Q) W 100000 (head117 x (.h0 v2 v3)).fr.enter (head117 x (.h0 v2 v3)).stk (head117 x (.h0 v2 v3)).H = (step117 x (.h0 v2 v3)).wp (kont W Q (head117 x)) := by kernel_rfl
theorem runs117 (W : Cfg) (Q : Int → Prop) (x : ((List Int) × Int)) : ∀ j : J117, run (env need117 (fun _ _ => none)) stop117 (finS spec117 Q) W 100000 (head117 x j).fr.enter (head117 x j).stk (head117 x j).H = (step117 x j).wp (kont W Q (head117 x))
  | .h0 v2 v3 => run117h0 W Q x v2 v3
theorem ok117 : SpecOk env0 117 spec117 := SpecOk.env rfl (fun _ _ h => h) (spec_of_trees (E := (env need117 (fun _ _ => none))) (sp := spec117) (valid _ _) (fun f sp h => SpecOk.env rfl (fun _ _ h => h) (need117_ok f sp h)) (fn := Tryd.f117) (c := (bodyOf Tryd.f117)) (by kernel_rfl) (by kernel_rfl) tree117 step117 head117 run117 runs117 (fun _ h => endVal_ends h))

/-! ### sundial/operand.Reg -/
noncomputable def tree60 (x : Int) : Tr DOperand :=
  .ret (1, (x, ((-1), ((-1), (0, (0, (false, 0)))))))
noncomputable def fn60 (x : Int) : DOperand := (tree60 x).val
def pre60 (x : Int) : Prop := (tree60 x).ok
noncomputable def spec60 : Spec := { dom := (.st1 (.int .i64)), cod := COperand, n := 1, pre := pre60, f := fn60 }
noncomputable def need60 : FuncId → Option Spec
  | _ => none
theorem need60_ok : ∀ f sp, need60 f = some sp → SpecOk env0 f sp := by
  intro f sp h
  unfold need60 at h
  split at h
  · cases h
theorem run60 (W : Cfg) (Q : DOperand → Prop) (x : Int) : run (env need60 (fun _ _ => none)) (fun _ _ _ => none) (finS spec60 Q) W 100000 (startFr 60 Tryd.f60 (bodyOf Tryd.f60) (argsOf (.st1 (.int .i64)) x)) [] [] = (tree60 x).wp Q := by kernel_rfl
theorem ok60 : SpecOk env0 60 spec60 := SpecOk.env rfl (fun _ _ h => h) (spec_of_tree (E := (env need60 (fun _ _ => none))) (sp := spec60) (valid _ _) (fun f sp h => SpecOk.env rfl (fun _ _ h => h) (need60_ok f sp h)) (fn := Tryd.f60) (c := (bodyOf Tryd.f60)) (by kernel_rfl) (by kernel_rfl) tree60 run60 (fun _ h => Tr.gives_val h))

/-! ### sundial/operand.scaled -/
noncomputable def tree100 (x : DOperand) : Tr Bool :=
  let y0 : (Int × (Int × (Int × (Bool × Int)))) := x.2.2.2
  .ite (ilt y0.1 0) (
  let y1 : Int := y0.2.1
  .ret (ieq y1 1)) (
  let y2 : Int := y0.2.1
  .ite ((ile 1 y2) == true) (
  .ite ((ile y2 8) == true) (
  .ret (ieq (iand .i64 y2 (isub .i64 y2 1)) 0)) (
  .ret false)) (
  .ret false))
noncomputable def fn100 (x : DOperand) : Bool := (tree100 x).val
def pre100 (x : DOperand) : Prop := (tree100 x).ok
noncomputable def spec100 : Spec := { dom := (.st1 COperand), cod := .bool, n := 1, pre := pre100, f := fn100 }
noncomputable def need100 : FuncId → Option Spec
  | _ => none
theorem need100_ok : ∀ f sp, need100 f = some sp → SpecOk env0 f sp := by
  intro f sp h
  unfold need100 at h
  split at h
  · cases h
theorem run100 (W : Cfg) (Q : Bool → Prop) (x : DOperand) : run (env need100 (fun _ _ => none)) (fun _ _ _ => none) (finS spec100 Q) W 100000 (startFr 100 Tryd.f100 (bodyOf Tryd.f100) (argsOf (.st1 COperand) x)) [] [] = (tree100 x).wp Q := by kernel_rfl
theorem ok100 : SpecOk env0 100 spec100 := SpecOk.env rfl (fun _ _ h => h) (spec_of_tree (E := (env need100 (fun _ _ => none))) (sp := spec100) (valid _ _) (fun f sp h => SpecOk.env rfl (fun _ _ h => h) (need100_ok f sp h)) (fn := Tryd.f100) (c := (bodyOf Tryd.f100)) (by kernel_rfl) (by kernel_rfl) tree100 run100 (fun _ h => Tr.gives_val h))

/-! ### sundial/operand.Right -/
noncomputable def tree67 (x : DOperand) : Tr Bool :=
  .ite (ieq x.1 1) (
  let y0 : Int := x.2.1
  .ite ((ile 0 y0) == true) (
  .ite ((ilt y0 16) == true) (
  .need (pre60 y0) <|
  .ret (eqD COperand x (fn60 y0))) (
  .ret false)) (
  .ret false)) (
  .ite ((ine x.1 2) == false) (
  let y1 : Int := x.2.1
  .ite ((ine y1 0) == false) (
  let y2 : (Int × (Int × (Int × (Int × (Bool × Int))))) := x.2.2
  let y3 : (Int × (Int × (Int × (Bool × Int)))) := y2.2
  let y4 : (Int × (Int × (Bool × Int))) := y3.2
  let y5 : (Int × (Bool × Int)) := y4.2
  let y6 : (Bool × Int) := y5.2
  .ite ((ine y6.2 0) == false) (
  let y7 : Int := y5.1
  .ite (ine (iconv .i64 (iconv .i32 y7)) y7) (
  .ret false) (
  .ite y6.1 (
  let y8 : Int := y2.1
  .ite ((ieq y8 (-1)) == true) (
  let y9 : Int := y3.1
  .ite ((ieq y9 (-1)) == true) (
  .ret (ieq y4.1 1)) (
  .ret false)) (
  .ret false)) (
  let y10 : Int := y2.1
  .ite ((ile (-1) y10) == true) (
  .ite ((ilt y10 16) == true) (
  let y11 : Int := y3.1
  .ite ((ile (-1) y11) == true) (
  .ite ((ilt y11 16) == true) (
  .ite ((ine y11 4) == true) (
  .need (pre100 x) <|
  .ret (fn100 x)) (
  .ret false)) (
  .ret false)) (
  .ret false)) (
  .ret false)) (
  .ret false)))) (
  .ret false)) (
  .ret false)) (
  .ret false))
noncomputable def fn67 (x : DOperand) : Bool := (tree67 x).val
def pre67 (x : DOperand) : Prop := (tree67 x).ok
noncomputable def spec67 : Spec := { dom := (.st1 COperand), cod := .bool, n := 1, pre := pre67, f := fn67 }
noncomputable def need67 : FuncId → Option Spec
  | 60 => some spec60
  | 100 => some spec100
  | _ => none
theorem need67_ok : ∀ f sp, need67 f = some sp → SpecOk env0 f sp := by
  intro f sp h
  unfold need67 at h
  split at h
  · cases h; exact ok60
  · cases h; exact ok100
  · cases h
theorem run67 (W : Cfg) (Q : Bool → Prop) (x : DOperand) : run (env need67 (fun _ _ => none)) (fun _ _ _ => none) (finS spec67 Q) W 100000 (startFr 67 Tryd.f67 (bodyOf Tryd.f67) (argsOf (.st1 COperand) x)) [] [] = (tree67 x).wp Q := by kernel_rfl
theorem ok67 : SpecOk env0 67 spec67 := SpecOk.env rfl (fun _ _ h => h) (spec_of_tree (E := (env need67 (fun _ _ => none))) (sp := spec67) (valid _ _) (fun f sp h => SpecOk.env rfl (fun _ _ h => h) (need67_ok f sp h)) (fn := Tryd.f67) (c := (bodyOf Tryd.f67)) (by kernel_rfl) (by kernel_rfl) tree67 run67 (fun _ h => Tr.gives_val h))

/-! ### sundial/encode.either -/
noncomputable def tree119 (x : DOperand) : Tr Bool :=
  .need (pre67 x) <|
  .ret (fn67 x)
noncomputable def fn119 (x : DOperand) : Bool := (tree119 x).val
def pre119 (x : DOperand) : Prop := (tree119 x).ok
noncomputable def spec119 : Spec := { dom := (.st1 COperand), cod := .bool, n := 1, pre := pre119, f := fn119 }
noncomputable def need119 : FuncId → Option Spec
  | 67 => some spec67
  | _ => none
theorem need119_ok : ∀ f sp, need119 f = some sp → SpecOk env0 f sp := by
  intro f sp h
  unfold need119 at h
  split at h
  · cases h; exact ok67
  · cases h
theorem run119 (W : Cfg) (Q : Bool → Prop) (x : DOperand) : run (env need119 (fun _ _ => none)) (fun _ _ _ => none) (finS spec119 Q) W 100000 (startFr 119 Tryd.f119 (bodyOf Tryd.f119) (argsOf (.st1 COperand) x)) [] [] = (tree119 x).wp Q := by kernel_rfl
theorem ok119 : SpecOk env0 119 spec119 := SpecOk.env rfl (fun _ _ h => h) (spec_of_tree (E := (env need119 (fun _ _ => none))) (sp := spec119) (valid _ _) (fun f sp h => SpecOk.env rfl (fun _ _ h => h) (need119_ok f sp h)) (fn := Tryd.f119) (c := (bodyOf Tryd.f119)) (by kernel_rfl) (by kernel_rfl) tree119 run119 (fun _ h => Tr.gives_val h))

/-! ### sundial/encode.reg -/
noncomputable def tree120 (x : DOperand) : Tr Bool :=
  .ite ((ieq x.1 1) == true) (
  .need (pre67 x) <|
  .ret (fn67 x)) (
  .ret false)
noncomputable def fn120 (x : DOperand) : Bool := (tree120 x).val
def pre120 (x : DOperand) : Prop := (tree120 x).ok
noncomputable def spec120 : Spec := { dom := (.st1 COperand), cod := .bool, n := 1, pre := pre120, f := fn120 }
noncomputable def need120 : FuncId → Option Spec
  | 67 => some spec67
  | _ => none
theorem need120_ok : ∀ f sp, need120 f = some sp → SpecOk env0 f sp := by
  intro f sp h
  unfold need120 at h
  split at h
  · cases h; exact ok67
  · cases h
theorem run120 (W : Cfg) (Q : Bool → Prop) (x : DOperand) : run (env need120 (fun _ _ => none)) (fun _ _ _ => none) (finS spec120 Q) W 100000 (startFr 120 Tryd.f120 (bodyOf Tryd.f120) (argsOf (.st1 COperand) x)) [] [] = (tree120 x).wp Q := by kernel_rfl
theorem ok120 : SpecOk env0 120 spec120 := SpecOk.env rfl (fun _ _ h => h) (spec_of_tree (E := (env need120 (fun _ _ => none))) (sp := spec120) (valid _ _) (fun f sp h => SpecOk.env rfl (fun _ _ h => h) (need120_ok f sp h)) (fn := Tryd.f120) (c := (bodyOf Tryd.f120)) (by kernel_rfl) (by kernel_rfl) tree120 run120 (fun _ h => Tr.gives_val h))

/-! ### sundial/encode.mem -/
noncomputable def tree121 (x : DOperand) : Tr Bool :=
  .ite ((ieq x.1 2) == true) (
  .need (pre67 x) <|
  .ret (fn67 x)) (
  .ret false)
noncomputable def fn121 (x : DOperand) : Bool := (tree121 x).val
def pre121 (x : DOperand) : Prop := (tree121 x).ok
noncomputable def spec121 : Spec := { dom := (.st1 COperand), cod := .bool, n := 1, pre := pre121, f := fn121 }
noncomputable def need121 : FuncId → Option Spec
  | 67 => some spec67
  | _ => none
theorem need121_ok : ∀ f sp, need121 f = some sp → SpecOk env0 f sp := by
  intro f sp h
  unfold need121 at h
  split at h
  · cases h; exact ok67
  · cases h
theorem run121 (W : Cfg) (Q : Bool → Prop) (x : DOperand) : run (env need121 (fun _ _ => none)) (fun _ _ _ => none) (finS spec121 Q) W 100000 (startFr 121 Tryd.f121 (bodyOf Tryd.f121) (argsOf (.st1 COperand) x)) [] [] = (tree121 x).wp Q := by kernel_rfl
theorem ok121 : SpecOk env0 121 spec121 := SpecOk.env rfl (fun _ _ h => h) (spec_of_tree (E := (env need121 (fun _ _ => none))) (sp := spec121) (valid _ _) (fun f sp h => SpecOk.env rfl (fun _ _ h => h) (need121_ok f sp h)) (fn := Tryd.f121) (c := (bodyOf Tryd.f121)) (by kernel_rfl) (by kernel_rfl) tree121 run121 (fun _ h => Tr.gives_val h))

/-! ### sundial/encode.Imm -/
noncomputable def tree21 (x : Int) : Tr DOperand :=
  .ret (3, (0, ((-1), ((-1), (0, (0, (false, x)))))))
noncomputable def fn21 (x : Int) : DOperand := (tree21 x).val
def pre21 (x : Int) : Prop := (tree21 x).ok
noncomputable def spec21 : Spec := { dom := (.st1 (.int .i64)), cod := COperand, n := 1, pre := pre21, f := fn21 }
noncomputable def need21 : FuncId → Option Spec
  | _ => none
theorem need21_ok : ∀ f sp, need21 f = some sp → SpecOk env0 f sp := by
  intro f sp h
  unfold need21 at h
  split at h
  · cases h
theorem run21 (W : Cfg) (Q : DOperand → Prop) (x : Int) : run (env need21 (fun _ _ => none)) (fun _ _ _ => none) (finS spec21 Q) W 100000 (startFr 21 Tryd.f21 (bodyOf Tryd.f21) (argsOf (.st1 (.int .i64)) x)) [] [] = (tree21 x).wp Q := by kernel_rfl
theorem ok21 : SpecOk env0 21 spec21 := SpecOk.env rfl (fun _ _ h => h) (spec_of_tree (E := (env need21 (fun _ _ => none))) (sp := spec21) (valid _ _) (fun f sp h => SpecOk.env rfl (fun _ _ h => h) (need21_ok f sp h)) (fn := Tryd.f21) (c := (bodyOf Tryd.f21)) (by kernel_rfl) (by kernel_rfl) tree21 run21 (fun _ h => Tr.gives_val h))

/-! ### sundial/encode.imm64 -/
noncomputable def tree165 (x : DOperand) : Tr Bool :=
  .ite ((ieq x.1 3) == true) (
  let y0 : Int := x.2.2.2.2.2.2.2
  .need (pre21 y0) <|
  .ret (eqD COperand x (fn21 y0))) (
  .ret false)
noncomputable def fn165 (x : DOperand) : Bool := (tree165 x).val
def pre165 (x : DOperand) : Prop := (tree165 x).ok
noncomputable def spec165 : Spec := { dom := (.st1 COperand), cod := .bool, n := 1, pre := pre165, f := fn165 }
noncomputable def need165 : FuncId → Option Spec
  | 21 => some spec21
  | _ => none
theorem need165_ok : ∀ f sp, need165 f = some sp → SpecOk env0 f sp := by
  intro f sp h
  unfold need165 at h
  split at h
  · cases h; exact ok21
  · cases h
theorem run165 (W : Cfg) (Q : Bool → Prop) (x : DOperand) : run (env need165 (fun _ _ => none)) (fun _ _ _ => none) (finS spec165 Q) W 100000 (startFr 165 Tryd.f165 (bodyOf Tryd.f165) (argsOf (.st1 COperand) x)) [] [] = (tree165 x).wp Q := by kernel_rfl
theorem ok165 : SpecOk env0 165 spec165 := SpecOk.env rfl (fun _ _ h => h) (spec_of_tree (E := (env need165 (fun _ _ => none))) (sp := spec165) (valid _ _) (fun f sp h => SpecOk.env rfl (fun _ _ h => h) (need165_ok f sp h)) (fn := Tryd.f165) (c := (bodyOf Tryd.f165)) (by kernel_rfl) (by kernel_rfl) tree165 run165 (fun _ h => Tr.gives_val h))

/-! ### sundial/encode.imm8 -/
noncomputable def tree122 (x : DOperand) : Tr Bool :=
  .need (pre165 x) <|
  .ite ((fn165 x) == true) (
  let y0 : Int := x.2.2.2.2.2.2.2
  .ret (ieq (iconv .i64 (iconv .i8 y0)) y0)) (
  .ret false)
noncomputable def fn122 (x : DOperand) : Bool := (tree122 x).val
def pre122 (x : DOperand) : Prop := (tree122 x).ok
noncomputable def spec122 : Spec := { dom := (.st1 COperand), cod := .bool, n := 1, pre := pre122, f := fn122 }
noncomputable def need122 : FuncId → Option Spec
  | 165 => some spec165
  | _ => none
theorem need122_ok : ∀ f sp, need122 f = some sp → SpecOk env0 f sp := by
  intro f sp h
  unfold need122 at h
  split at h
  · cases h; exact ok165
  · cases h
theorem run122 (W : Cfg) (Q : Bool → Prop) (x : DOperand) : run (env need122 (fun _ _ => none)) (fun _ _ _ => none) (finS spec122 Q) W 100000 (startFr 122 Tryd.f122 (bodyOf Tryd.f122) (argsOf (.st1 COperand) x)) [] [] = (tree122 x).wp Q := by kernel_rfl
theorem ok122 : SpecOk env0 122 spec122 := SpecOk.env rfl (fun _ _ h => h) (spec_of_tree (E := (env need122 (fun _ _ => none))) (sp := spec122) (valid _ _) (fun f sp h => SpecOk.env rfl (fun _ _ h => h) (need122_ok f sp h)) (fn := Tryd.f122) (c := (bodyOf Tryd.f122)) (by kernel_rfl) (by kernel_rfl) tree122 run122 (fun _ h => Tr.gives_val h))

/-! ### sundial/encode.imm32 -/
noncomputable def tree123 (x : DOperand) : Tr Bool :=
  .need (pre165 x) <|
  .ite ((fn165 x) == true) (
  let y0 : Int := x.2.2.2.2.2.2.2
  .ret (ieq (iconv .i64 (iconv .i32 y0)) y0)) (
  .ret false)
noncomputable def fn123 (x : DOperand) : Bool := (tree123 x).val
def pre123 (x : DOperand) : Prop := (tree123 x).ok
noncomputable def spec123 : Spec := { dom := (.st1 COperand), cod := .bool, n := 1, pre := pre123, f := fn123 }
noncomputable def need123 : FuncId → Option Spec
  | 165 => some spec165
  | _ => none
theorem need123_ok : ∀ f sp, need123 f = some sp → SpecOk env0 f sp := by
  intro f sp h
  unfold need123 at h
  split at h
  · cases h; exact ok165
  · cases h
theorem run123 (W : Cfg) (Q : Bool → Prop) (x : DOperand) : run (env need123 (fun _ _ => none)) (fun _ _ _ => none) (finS spec123 Q) W 100000 (startFr 123 Tryd.f123 (bodyOf Tryd.f123) (argsOf (.st1 COperand) x)) [] [] = (tree123 x).wp Q := by kernel_rfl
theorem ok123 : SpecOk env0 123 spec123 := SpecOk.env rfl (fun _ _ h => h) (spec_of_tree (E := (env need123 (fun _ _ => none))) (sp := spec123) (valid _ _) (fun f sp h => SpecOk.env rfl (fun _ _ h => h) (need123_ok f sp h)) (fn := Tryd.f123) (c := (bodyOf Tryd.f123)) (by kernel_rfl) (by kernel_rfl) tree123 run123 (fun _ h => Tr.gives_val h))

/-! ### sundial/encode.Vec -/
noncomputable def tree23 (x : Int) : Tr DOperand :=
  .ret (1, ((iadd .i64 (iand .i64 x 15) 16), ((-1), ((-1), (0, (0, (false, 0)))))))
noncomputable def fn23 (x : Int) : DOperand := (tree23 x).val
def pre23 (x : Int) : Prop := (tree23 x).ok
noncomputable def spec23 : Spec := { dom := (.st1 (.int .i64)), cod := COperand, n := 1, pre := pre23, f := fn23 }
noncomputable def need23 : FuncId → Option Spec
  | _ => none
theorem need23_ok : ∀ f sp, need23 f = some sp → SpecOk env0 f sp := by
  intro f sp h
  unfold need23 at h
  split at h
  · cases h
theorem run23 (W : Cfg) (Q : DOperand → Prop) (x : Int) : run (env need23 (fun _ _ => none)) (fun _ _ _ => none) (finS spec23 Q) W 100000 (startFr 23 Tryd.f23 (bodyOf Tryd.f23) (argsOf (.st1 (.int .i64)) x)) [] [] = (tree23 x).wp Q := by kernel_rfl
theorem ok23 : SpecOk env0 23 spec23 := SpecOk.env rfl (fun _ _ h => h) (spec_of_tree (E := (env need23 (fun _ _ => none))) (sp := spec23) (valid _ _) (fun f sp h => SpecOk.env rfl (fun _ _ h => h) (need23_ok f sp h)) (fn := Tryd.f23) (c := (bodyOf Tryd.f23)) (by kernel_rfl) (by kernel_rfl) tree23 run23 (fun _ h => Tr.gives_val h))

/-! ### sundial/encode.vec -/
noncomputable def tree126 (x : DOperand) : Tr Bool :=
  .ite ((ieq x.1 1) == true) (
  let y0 : Int := x.2.1
  .ite ((ieq (iandn .i64 y0 15) 16) == true) (
  .need (pre23 y0) <|
  .ret (eqD COperand x (fn23 y0))) (
  .ret false)) (
  .ret false)
noncomputable def fn126 (x : DOperand) : Bool := (tree126 x).val
def pre126 (x : DOperand) : Prop := (tree126 x).ok
noncomputable def spec126 : Spec := { dom := (.st1 COperand), cod := .bool, n := 1, pre := pre126, f := fn126 }
noncomputable def need126 : FuncId → Option Spec
  | 23 => some spec23
  | _ => none
theorem need126_ok : ∀ f sp, need126 f = some sp → SpecOk env0 f sp := by
  intro f sp h
  unfold need126 at h
  split at h
  · cases h; exact ok23
  · cases h
theorem run126 (W : Cfg) (Q : Bool → Prop) (x : DOperand) : run (env need126 (fun _ _ => none)) (fun _ _ _ => none) (finS spec126 Q) W 100000 (startFr 126 Tryd.f126 (bodyOf Tryd.f126) (argsOf (.st1 COperand) x)) [] [] = (tree126 x).wp Q := by kernel_rfl
theorem ok126 : SpecOk env0 126 spec126 := SpecOk.env rfl (fun _ _ h => h) (spec_of_tree (E := (env need126 (fun _ _ => none))) (sp := spec126) (valid _ _) (fun f sp h => SpecOk.env rfl (fun _ _ h => h) (need126_ok f sp h)) (fn := Tryd.f126) (c := (bodyOf Tryd.f126)) (by kernel_rfl) (by kernel_rfl) tree126 run126 (fun _ h => Tr.gives_val h))

/-! ### sundial/encode.wide -/
noncomputable def tree127 (x : DOperand) : Tr Bool :=
  .need (pre126 x) <|
  .ite ((fn126 x) == false) (
  .need (pre121 x) <|
  .ret (fn121 x)) (
  .ret true)
noncomputable def fn127 (x : DOperand) : Bool := (tree127 x).val
def pre127 (x : DOperand) : Prop := (tree127 x).ok
noncomputable def spec127 : Spec := { dom := (.st1 COperand), cod := .bool, n := 1, pre := pre127, f := fn127 }
noncomputable def need127 : FuncId → Option Spec
  | 121 => some spec121
  | 126 => some spec126
  | _ => none
theorem need127_ok : ∀ f sp, need127 f = some sp → SpecOk env0 f sp := by
  intro f sp h
  unfold need127 at h
  split at h
  · cases h; exact ok121
  · cases h; exact ok126
  · cases h
theorem run127 (W : Cfg) (Q : Bool → Prop) (x : DOperand) : run (env need127 (fun _ _ => none)) (fun _ _ _ => none) (finS spec127 Q) W 100000 (startFr 127 Tryd.f127 (bodyOf Tryd.f127) (argsOf (.st1 COperand) x)) [] [] = (tree127 x).wp Q := by kernel_rfl
theorem ok127 : SpecOk env0 127 spec127 := SpecOk.env rfl (fun _ _ h => h) (spec_of_tree (E := (env need127 (fun _ _ => none))) (sp := spec127) (valid _ _) (fun f sp h => SpecOk.env rfl (fun _ _ h => h) (need127_ok f sp h)) (fn := Tryd.f127) (c := (bodyOf Tryd.f127)) (by kernel_rfl) (by kernel_rfl) tree127 run127 (fun _ h => Tr.gives_val h))

/-! ### sundial/encode.byte8 -/
noncomputable def tree129 (x : DOperand) : Tr Bool :=
  .need (pre165 x) <|
  .ite ((fn165 x) == true) (
  let y0 : Int := x.2.2.2.2.2.2.2
  .ret (ieq (iconv .i64 (iconv .u8 y0)) y0)) (
  .ret false)
noncomputable def fn129 (x : DOperand) : Bool := (tree129 x).val
def pre129 (x : DOperand) : Prop := (tree129 x).ok
noncomputable def spec129 : Spec := { dom := (.st1 COperand), cod := .bool, n := 1, pre := pre129, f := fn129 }
noncomputable def need129 : FuncId → Option Spec
  | 165 => some spec165
  | _ => none
theorem need129_ok : ∀ f sp, need129 f = some sp → SpecOk env0 f sp := by
  intro f sp h
  unfold need129 at h
  split at h
  · cases h; exact ok165
  · cases h
theorem run129 (W : Cfg) (Q : Bool → Prop) (x : DOperand) : run (env need129 (fun _ _ => none)) (fun _ _ _ => none) (finS spec129 Q) W 100000 (startFr 129 Tryd.f129 (bodyOf Tryd.f129) (argsOf (.st1 COperand) x)) [] [] = (tree129 x).wp Q := by kernel_rfl
theorem ok129 : SpecOk env0 129 spec129 := SpecOk.env rfl (fun _ _ h => h) (spec_of_tree (E := (env need129 (fun _ _ => none))) (sp := spec129) (valid _ _) (fun f sp h => SpecOk.env rfl (fun _ _ h => h) (need129_ok f sp h)) (fn := Tryd.f129) (c := (bodyOf Tryd.f129)) (by kernel_rfl) (by kernel_rfl) tree129 run129 (fun _ h => Tr.gives_val h))

/-! ### sundial/encode.cl -/
noncomputable def tree130 (x : DOperand) : Tr Bool :=
  .need (pre60 1) <|
  .ret (eqD COperand x (fn60 1))
noncomputable def fn130 (x : DOperand) : Bool := (tree130 x).val
def pre130 (x : DOperand) : Prop := (tree130 x).ok
noncomputable def spec130 : Spec := { dom := (.st1 COperand), cod := .bool, n := 1, pre := pre130, f := fn130 }
noncomputable def need130 : FuncId → Option Spec
  | 60 => some spec60
  | _ => none
theorem need130_ok : ∀ f sp, need130 f = some sp → SpecOk env0 f sp := by
  intro f sp h
  unfold need130 at h
  split at h
  · cases h; exact ok60
  · cases h
theorem run130 (W : Cfg) (Q : Bool → Prop) (x : DOperand) : run (env need130 (fun _ _ => none)) (fun _ _ _ => none) (finS spec130 Q) W 100000 (startFr 130 Tryd.f130 (bodyOf Tryd.f130) (argsOf (.st1 COperand) x)) [] [] = (tree130 x).wp Q := by kernel_rfl
theorem ok130 : SpecOk env0 130 spec130 := SpecOk.env rfl (fun _ _ h => h) (spec_of_tree (E := (env need130 (fun _ _ => none))) (sp := spec130) (valid _ _) (fun f sp h => SpecOk.env rfl (fun _ _ h => h) (need130_ok f sp h)) (fn := Tryd.f130) (c := (bodyOf Tryd.f130)) (by kernel_rfl) (by kernel_rfl) tree130 run130 (fun _ h => Tr.gives_val h))

/-! ### sundial/encode.none -/
noncomputable def tree144 (x : DOperand) : Tr Bool :=
  .ret (eqD COperand x (0, (0, (0, (0, (0, (0, (false, 0))))))))
noncomputable def fn144 (x : DOperand) : Bool := (tree144 x).val
def pre144 (x : DOperand) : Prop := (tree144 x).ok
noncomputable def spec144 : Spec := { dom := (.st1 COperand), cod := .bool, n := 1, pre := pre144, f := fn144 }
noncomputable def need144 : FuncId → Option Spec
  | _ => none
theorem need144_ok : ∀ f sp, need144 f = some sp → SpecOk env0 f sp := by
  intro f sp h
  unfold need144 at h
  split at h
  · cases h
theorem run144 (W : Cfg) (Q : Bool → Prop) (x : DOperand) : run (env need144 (fun _ _ => none)) (fun _ _ _ => none) (finS spec144 Q) W 100000 (startFr 144 Tryd.f144 (bodyOf Tryd.f144) (argsOf (.st1 COperand) x)) [] [] = (tree144 x).wp Q := by kernel_rfl
theorem ok144 : SpecOk env0 144 spec144 := SpecOk.env rfl (fun _ _ h => h) (spec_of_tree (E := (env need144 (fun _ _ => none))) (sp := spec144) (valid _ _) (fun f sp h => SpecOk.env rfl (fun _ _ h => h) (need144_ok f sp h)) (fn := Tryd.f144) (c := (bodyOf Tryd.f144)) (by kernel_rfl) (by kernel_rfl) tree144 run144 (fun _ h => Tr.gives_val h))

/-! ### slices.Index[[]int,int] -/
inductive J154 where
  | h0 (v2 : Int) (v3 : Int)
noncomputable def tree154 (x : ((List Int) × Int)) : Tr (J154 ⊕ Int) :=
  .ret (.inl (.h0 (x.1.length : Int) 0))
noncomputable def step154 (x : ((List Int) × Int)) : J154 → Tr (J154 ⊕ Int)
  | .h0 v2 v3 =>
  .ite (ilt v3 v2) (
  .need ((0 : Int) ≤ v3) <|
  .need (v3 < (x.1.length : Int)) <|
  .ite (ieq x.2 (rdc (.int .i64) x.1 (v3).toNat)) (
  .ret (.inr v3)) (
  .ret (.inl (.h0 v2 (iadd .i64 v3 1))))) (
  .ret (.inr (-1)))
noncomputable def head154 (x : ((List Int) × Int)) : J154 → Head
  | .h0 v2 v3 =>
  { fr := { id := 154, kind := .top, T := [(.fsl (.int .i64) x.1), (.int .i64 x.2)] ++ List.replicate 5 .any ++ [(.int .i64 v2), (.int .i64 v3)] ++ List.replicate 10 .any, items := [.lp (subc [1, 0, 1, 0, 0] (bodyOf Tryd.f154)), .blk 0, .code (subc [1, 1] (bodyOf Tryd.f154))], D := [], base := 0 },
    stk := [],
    H := [] }
noncomputable def stop154 : FuncId → Nat → Nat → Option Cut
  | 154, 0, 0 => some { tmps := [0, 1, 7, 8], loops := [], dead := [], stk := [] }
  | _, _, _ => none
noncomputable def fn154 (x : ((List Int) × Int)) : Int := endVal (TC.dflt (.int .i64)) (step154 x) (tree154 x)
def pre154 (x : ((List Int) × Int)) : Prop := ∃ r, Ends (step154 x) r (tree154 x)
noncomputable def spec154 : Spec := { dom := (.st (.slice (.int .i64)) (.st1 (.int .i64))), cod := (.int .i64), n := 1, pre := pre154, f := fn154 }
noncomputable def need154 : FuncId → Option Spec
  | _ => none
theorem need154_ok : ∀ f sp, need154 f = some sp → SpecOk env0 f sp := by
  intro f sp h
  unfold need154 at h
  split at h
  · cases h
theorem run154 (W : Cfg) (Q : Int → Prop) (x : ((List Int) × Int)) : run (env need154 (fun _ _ => none)) stop154 (finS spec154 Q) W 100000 (startFr 154 Tryd.f154 (bodyOf Tryd.f154) (argsOf (.st (.slice (.int .i64)) (.st1 (.int .i64))) x)) [] [] = (tree154 x).wp (kont W Q (head154 x)) := by kernel_rfl
theorem run154h0 (W : Cfg) (Q : Int → Prop) (x : ((List Int) × Int)) (v2 : Int) (v3 : Int) : run (env need154 (fun _ _ => none)) stop154 (finS spec154 Q) W 100000 (head154 x (.h0 v2 v3)).fr.enter (head154 x (.h0 v2 v3)).stk (head154 x (.h0 v2 v3)).H = (step154 x (.h0 v2 v3)).wp (kont W Q (head154 x)) := by kernel_rfl
theorem runs154 (W : Cfg) (Q : Int → Prop) (x : ((List Int) × Int)) : ∀ j : J154, run (env need154 (fun _ _ => none)) stop154 (finS spec154 Q) W 100000 (head154 x j).fr.enter (head154 x j).stk (head154 x j).H = (step154 x j).wp (kont W Q (head154 x))
  | .h0 v2 v3 => run154h0 W Q x v2 v3
theorem ok154 : SpecOk env0 154 spec154 := SpecOk.env rfl (fun _ _ h => h) (spec_of_trees (E := (env need154 (fun _ _ => none))) (sp := spec154) (valid _ _) (fun f sp h => SpecOk.env rfl (fun _ _ h => h) (need154_ok f sp h)) (fn := Tryd.f154) (c := (bodyOf Tryd.f154)) (by kernel_rfl) (by kernel_rfl) tree154 step154 head154 run154 runs154 (fun _ h => endVal_ends h))

/-! ### slices.Contains[[]int,int] -/
noncomputable def tree99 (x : ((List Int) × Int)) : Tr Bool :=
  .need (pre154 x) <|
  .ret (ile 0 (fn154 x))
noncomputable def fn99 (x : ((List Int) × Int)) : Bool := (tree99 x).val
def pre99 (x : ((List Int) × Int)) : Prop := (tree99 x).ok
noncomputable def spec99 : Spec := { dom := (.st (.slice (.int .i64)) (.st1 (.int .i64))), cod := .bool, n := 1, pre := pre99, f := fn99 }
noncomputable def need99 : FuncId → Option Spec
  | 154 => some spec154
  | _ => none
theorem need99_ok : ∀ f sp, need99 f = some sp → SpecOk env0 f sp := by
  intro f sp h
  unfold need99 at h
  split at h
  · cases h; exact ok154
  · cases h
theorem run99 (W : Cfg) (Q : Bool → Prop) (x : ((List Int) × Int)) : run (env need99 (fun _ _ => none)) (fun _ _ _ => none) (finS spec99 Q) W 100000 (startFr 99 Tryd.f99 (bodyOf Tryd.f99) (argsOf (.st (.slice (.int .i64)) (.st1 (.int .i64))) x)) [] [] = (tree99 x).wp Q := by kernel_rfl
theorem ok99 : SpecOk env0 99 spec99 := SpecOk.env rfl (fun _ _ h => h) (spec_of_tree (E := (env need99 (fun _ _ => none))) (sp := spec99) (valid _ _) (fun f sp h => SpecOk.env rfl (fun _ _ h => h) (need99_ok f sp h)) (fn := Tryd.f99) (c := (bodyOf Tryd.f99)) (by kernel_rfl) (by kernel_rfl) tree99 run99 (fun _ h => Tr.gives_val h))

end Go.Eng.RE
end
