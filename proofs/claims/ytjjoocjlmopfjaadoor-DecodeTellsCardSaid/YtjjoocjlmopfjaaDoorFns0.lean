/- A part of the proof that the laws of this seat hold. Conditions: none beyond the row. -/
import Derived.Test.YtjjoocjlmopfjaaDoorEng1
import Derived.Test.YtjjoocjlmopfjaaDoorProg
import Derived.KernelRfl
import Derived.Lib.LaidTab
import Derived.LaidMore
import Derived.LaidHandle
import Derived.OpenShut
section
/- The tables of this program, and that they are right. -/
namespace Go.Eng.RD
open Go.Proofs Go.Eng
set_option maxRecDepth 100000

@[reducible] def CerrorAddressString : TC := (.st .str (.st1 (.int .u64)))
abbrev DerrorAddressString : Type := (ByteArray × Int)
@[reducible] def CboundsError : TC := (.st (.int .i64) (.st (.int .i64) (.st .bool (.st1 (.int .u8)))))
abbrev DboundsError : Type := (Int × (Int × (Bool × Int)))
@[reducible] def Chead : TC := (.st (.int .u8) (.st .bool (.st (.int .u8) (.st (.int .u8) (.st (.int .u8) (.st1 (.int .i64)))))))
abbrev Dhead : Type := (Int × (Bool × (Int × (Int × (Int × Int)))))
@[reducible] def Creader : TC := (.st (.slice (.int .u8)) (.st .bool (.st (.int .u8) (.st .bool (.st (.int .u8) (.st (.int .u8) (.st1 (.int .u8))))))))
abbrev Dreader : Type := ((List Int) × (Bool × (Int × (Bool × (Int × (Int × Int))))))
@[reducible] def COperand : TC := (.st (.int .u8) (.st (.int .i64) (.st (.int .i64) (.st (.int .i64) (.st (.int .i64) (.st (.int .i64) (.st .bool (.st1 (.int .i64)))))))))
abbrev DOperand : Type := (Int × (Int × (Int × (Int × (Int × (Int × (Bool × Int)))))))
@[reducible] def Crow : TC := (.st (.int .i64) (.st .str (.st .str (.st (.int .u8) (.st (.slice (.int .u8)) (.st (.int .i64) (.st (.int .i64) (.st1 (.int .i64)))))))))
abbrev Drow : Type := (Int × (ByteArray × (ByteArray × (Int × ((List Int) × (Int × (Int × Int)))))))
@[reducible] def CInsn : TC := (.st (.int .u8) (.st (.int .u8) (.st (.int .i64) (.st COperand (.st COperand (.st (.int .u8) (.st1 (.int .i64))))))))
abbrev DInsn : Type := (Int × (Int × (Int × (DOperand × (DOperand × (Int × Int))))))
@[reducible] def CForm : TC := (.st (.int .u8) (.st (.int .u8) (.st (.int .u8) (.st .bool (.st (.int .i64) (.st (.int .u8) (.st (.int .u8) (.st (.int .i64) (.st (.int .u8) (.st (.int .i64) (.st .bool (.st .bool (.st .bool (.st1 .bool))))))))))))))
abbrev DForm : Type := (Int × (Int × (Int × (Bool × (Int × (Int × (Int × (Int × (Int × (Int × (Bool × (Bool × (Bool × Bool)))))))))))))

noncomputable def ty : TypeId → Option ATy
  | 1 => some { desc := Tryd.t1.desc, size := 1, bytes := 8, zero := (.raw .nilFunc), code := none }
  | 2 => some { desc := (.int .i64), size := 1, bytes := 8, zero := (.int .i64 0), code := (some (.int .i64)) }
  | 3 => some { desc := (.int .i64), size := 1, bytes := 8, zero := (.int .i64 0), code := (some (.int .i64)) }
  | 4 => some { desc := .bool, size := 1, bytes := 1, zero := (.bool false), code := (some .bool) }
  | 5 => some { desc := (.int .u8), size := 1, bytes := 1, zero := (.int .u8 0), code := (some (.int .u8)) }
  | 6 => some { desc := (.int .u8), size := 1, bytes := 1, zero := (.int .u8 0), code := (some (.int .u8)) }
  | 7 => some { desc := Tryd.t7.desc, size := 4, bytes := 24, zero := (.agg [1, 1, 1, 1] [(.int .i64 0), (.int .i64 0), (.bool false), (.int .u8 0)]), code := (some CboundsError) }
  | 8 => some { desc := Tryd.t7.desc, size := 4, bytes := 24, zero := (.agg [1, 1, 1, 1] [(.int .i64 0), (.int .i64 0), (.bool false), (.int .u8 0)]), code := (some CboundsError) }
  | 9 => some { desc := .string, size := 1, bytes := 16, zero := (.str ByteArray.empty), code := (some .str) }
  | 10 => some { desc := .string, size := 1, bytes := 16, zero := (.str ByteArray.empty), code := (some .str) }
  | 11 => some { desc := .string, size := 1, bytes := 16, zero := (.str ByteArray.empty), code := (some .str) }
  | 12 => some { desc := (.int .u64), size := 1, bytes := 8, zero := (.int .u64 0), code := (some (.int .u64)) }
  | 13 => some { desc := Tryd.t13.desc, size := 2, bytes := 24, zero := (.agg [1, 1] [(.str ByteArray.empty), (.int .u64 0)]), code := (some CerrorAddressString) }
  | 14 => some { desc := Tryd.t13.desc, size := 2, bytes := 24, zero := (.agg [1, 1] [(.str ByteArray.empty), (.int .u64 0)]), code := (some CerrorAddressString) }
  | 15 => some { desc := (.pointer 180), size := 1, bytes := 8, zero := (.raw (.pointer none)), code := none }
  | 16 => some { desc := (.pointer 183), size := 1, bytes := 8, zero := (.raw (.pointer none)), code := none }
  | 17 => some { desc := (.pointer 192), size := 1, bytes := 8, zero := (.raw (.pointer none)), code := none }
  | 18 => some { desc := Tryd.t18.desc, size := 1, bytes := 8, zero := (.agg [1] [(.raw (.pointer none))]), code := none }
  | 19 => some { desc := Tryd.t18.desc, size := 1, bytes := 8, zero := (.agg [1] [(.raw (.pointer none))]), code := none }
  | 20 => some { desc := Tryd.t20.desc, size := 1, bytes := 16, zero := (.raw .nilIface), code := none }
  | 21 => some { desc := (.int .i32), size := 1, bytes := 4, zero := (.int .i32 0), code := (some (.int .i32)) }
  | 22 => some { desc := Tryd.t22.desc, size := 8, bytes := 64, zero := (.agg [1, 1, 1, 1, 1, 1, 1, 1] [(.int .u8 0), (.int .i64 0), (.int .i64 0), (.int .i64 0), (.int .i64 0), (.int .i64 0), (.bool false), (.int .i64 0)]), code := (some COperand) }
  | 23 => some { desc := Tryd.t22.desc, size := 8, bytes := 64, zero := (.agg [1, 1, 1, 1, 1, 1, 1, 1] [(.int .u8 0), (.int .i64 0), (.int .i64 0), (.int .i64 0), (.int .i64 0), (.int .i64 0), (.bool false), (.int .i64 0)]), code := (some COperand) }
  | 24 => some { desc := Tryd.t24.desc, size := 21, bytes := 160, zero := (.agg [1, 1, 1, 8, 8, 1, 1] [(.int .u8 0), (.int .u8 0), (.int .i64 0), (.agg [1, 1, 1, 1, 1, 1, 1, 1] [(.int .u8 0), (.int .i64 0), (.int .i64 0), (.int .i64 0), (.int .i64 0), (.int .i64 0), (.bool false), (.int .i64 0)]), (.agg [1, 1, 1, 1, 1, 1, 1, 1] [(.int .u8 0), (.int .i64 0), (.int .i64 0), (.int .i64 0), (.int .i64 0), (.int .i64 0), (.bool false), (.int .i64 0)]), (.int .u8 0), (.int .i64 0)]), code := (some CInsn) }
  | 25 => some { desc := Tryd.t24.desc, size := 21, bytes := 160, zero := (.agg [1, 1, 1, 8, 8, 1, 1] [(.int .u8 0), (.int .u8 0), (.int .i64 0), (.agg [1, 1, 1, 1, 1, 1, 1, 1] [(.int .u8 0), (.int .i64 0), (.int .i64 0), (.int .i64 0), (.int .i64 0), (.int .i64 0), (.bool false), (.int .i64 0)]), (.agg [1, 1, 1, 1, 1, 1, 1, 1] [(.int .u8 0), (.int .i64 0), (.int .i64 0), (.int .i64 0), (.int .i64 0), (.int .i64 0), (.bool false), (.int .i64 0)]), (.int .u8 0), (.int .i64 0)]), code := (some CInsn) }
  | 26 => some { desc := (.slice 25), size := 1, bytes := 24, zero := (.raw (.slice none 0 0)), code := (some (.slice CInsn)) }
  | 27 => some { desc := Tryd.t27.desc, size := 1, bytes := 8, zero := (.raw .nilFunc), code := none }
  | 28 => some { desc := (.slice 5), size := 1, bytes := 24, zero := (.raw (.slice none 0 0)), code := (some (.slice (.int .u8))) }
  | 29 => some { desc := (.int .i64), size := 1, bytes := 8, zero := (.int .i64 0), code := (some (.int .i64)) }
  | 31 => some { desc := Tryd.t31.desc, size := 1, bytes := 8, zero := (.raw .nilFunc), code := none }
  | 32 => some { desc := Tryd.t32.desc, size := 1, bytes := 8, zero := (.raw .nilFunc), code := none }
  | 33 => some { desc := Tryd.t33.desc, size := 1, bytes := 8, zero := (.raw .nilFunc), code := none }
  | 34 => some { desc := Tryd.t34.desc, size := 1, bytes := 8, zero := (.raw .nilFunc), code := none }
  | 35 => some { desc := Tryd.t35.desc, size := 1, bytes := 8, zero := (.raw .nilFunc), code := none }
  | 36 => some { desc := Tryd.t36.desc, size := 1, bytes := 8, zero := (.raw .nilFunc), code := none }
  | 37 => some { desc := Tryd.t37.desc, size := 1, bytes := 8, zero := (.raw .nilFunc), code := none }
  | 38 => some { desc := Tryd.t38.desc, size := 1, bytes := 8, zero := (.raw .nilFunc), code := none }
  | 39 => some { desc := Tryd.t39.desc, size := 1, bytes := 8, zero := (.raw .nilFunc), code := none }
  | 41 => some { desc := Tryd.t41.desc, size := 1, bytes := 8, zero := (.raw .nilFunc), code := none }
  | 42 => some { desc := Tryd.t42.desc, size := 1, bytes := 8, zero := (.raw .nilFunc), code := none }
  | 44 => some { desc := Tryd.t44.desc, size := 1, bytes := 8, zero := (.raw .nilFunc), code := none }
  | 45 => some { desc := Tryd.t45.desc, size := 1, bytes := 8, zero := (.raw .nilFunc), code := none }
  | 46 => some { desc := Tryd.t46.desc, size := 1, bytes := 8, zero := (.raw .nilFunc), code := none }
  | 47 => some { desc := (.array 8 5), size := 8, bytes := 8, zero := (.arr 8 (.int .u8) (List.replicate 8 (0 : Int))), code := (some (.arr 8 (.int .u8))) }
  | 48 => some { desc := (.slice 51), size := 1, bytes := 24, zero := (.raw (.slice none 0 0)), code := (some (.slice CForm)) }
  | 49 => some { desc := Tryd.t49.desc, size := 1, bytes := 8, zero := (.raw .nilFunc), code := none }
  | 50 => some { desc := Tryd.t50.desc, size := 14, bytes := 56, zero := (.agg [1, 1, 1, 1, 1, 1, 1, 1, 1, 1, 1, 1, 1, 1] [(.int .u8 0), (.int .u8 0), (.int .u8 0), (.bool false), (.int .i64 0), (.int .u8 0), (.int .u8 0), (.int .i64 0), (.int .u8 0), (.int .i64 0), (.bool false), (.bool false), (.bool false), (.bool false)]), code := (some CForm) }
  | 51 => some { desc := Tryd.t50.desc, size := 14, bytes := 56, zero := (.agg [1, 1, 1, 1, 1, 1, 1, 1, 1, 1, 1, 1, 1, 1] [(.int .u8 0), (.int .u8 0), (.int .u8 0), (.bool false), (.int .i64 0), (.int .u8 0), (.int .u8 0), (.int .i64 0), (.int .u8 0), (.int .i64 0), (.bool false), (.bool false), (.bool false), (.bool false)]), code := (some CForm) }
  | 52 => some { desc := (.int .u64), size := 1, bytes := 8, zero := (.int .u64 0), code := (some (.int .u64)) }
  | 53 => some { desc := Tryd.t53.desc, size := 1, bytes := 8, zero := (.raw .nilFunc), code := none }
  | 54 => some { desc := Tryd.t54.desc, size := 1, bytes := 8, zero := (.raw .nilFunc), code := none }
  | 55 => some { desc := Tryd.t55.desc, size := 1, bytes := 8, zero := (.raw .nilFunc), code := none }
  | 56 => some { desc := (.slice 3), size := 1, bytes := 24, zero := (.raw (.slice none 0 0)), code := (some (.slice (.int .i64))) }
  | 57 => some { desc := (.slice 63), size := 1, bytes := 24, zero := (.raw (.slice none 0 0)), code := none }
  | 58 => some { desc := Tryd.t58.desc, size := 3, bytes := 56, zero := (.agg [1, 1, 1] [(.raw (.slice none 0 0)), (.int .u8 0), (.raw (.slice none 0 0))]), code := none }
  | 59 => some { desc := Tryd.t58.desc, size := 3, bytes := 56, zero := (.agg [1, 1, 1] [(.raw (.slice none 0 0)), (.int .u8 0), (.raw (.slice none 0 0))]), code := none }
  | 60 => some { desc := Tryd.t60.desc, size := 1, bytes := 8, zero := (.raw .nilFunc), code := none }
  | 61 => some { desc := Tryd.t60.desc, size := 1, bytes := 8, zero := (.raw .nilFunc), code := none }
  | 62 => some { desc := Tryd.t62.desc, size := 6, bytes := 64, zero := (.agg [1, 1, 1, 1, 1, 1] [(.raw .nilFunc), (.raw .nilFunc), (.raw (.slice none 0 0)), (.int .i64 0), (.int .i64 0), (.int .i64 0)]), code := none }
  | 63 => some { desc := Tryd.t62.desc, size := 6, bytes := 64, zero := (.agg [1, 1, 1, 1, 1, 1] [(.raw .nilFunc), (.raw .nilFunc), (.raw (.slice none 0 0)), (.int .i64 0), (.int .i64 0), (.int .i64 0)]), code := none }
  | 65 => some { desc := Tryd.t65.desc, size := 1, bytes := 8, zero := (.raw .nilFunc), code := none }
  | 66 => some { desc := Tryd.t66.desc, size := 1, bytes := 8, zero := (.raw .nilFunc), code := none }
  | 67 => some { desc := Tryd.t67.desc, size := 1, bytes := 8, zero := (.raw .nilFunc), code := none }
  | 69 => some { desc := Tryd.t69.desc, size := 1, bytes := 8, zero := (.raw .nilFunc), code := none }
  | 70 => some { desc := Tryd.t70.desc, size := 1, bytes := 8, zero := (.raw .nilFunc), code := none }
  | 71 => some { desc := Tryd.t71.desc, size := 8, bytes := 96, zero := (.agg [1, 1, 1, 1, 1, 1, 1, 1] [(.int .i64 0), (.str ByteArray.empty), (.str ByteArray.empty), (.int .u8 0), (.raw (.slice none 0 0)), (.int .i64 0), (.int .i64 0), (.int .i64 0)]), code := (some Crow) }
  | 72 => some { desc := Tryd.t71.desc, size := 8, bytes := 96, zero := (.agg [1, 1, 1, 1, 1, 1, 1, 1] [(.int .i64 0), (.str ByteArray.empty), (.str ByteArray.empty), (.int .u8 0), (.raw (.slice none 0 0)), (.int .i64 0), (.int .i64 0), (.int .i64 0)]), code := (some Crow) }
  | 74 => some { desc := Tryd.t74.desc, size := 1, bytes := 8, zero := (.raw .nilFunc), code := none }
  | 75 => some { desc := Tryd.t75.desc, size := 1, bytes := 8, zero := (.raw .nilFunc), code := none }
  | 76 => some { desc := Tryd.t76.desc, size := 6, bytes := 16, zero := (.agg [1, 1, 1, 1, 1, 1] [(.int .u8 0), (.bool false), (.int .u8 0), (.int .u8 0), (.int .u8 0), (.int .i64 0)]), code := (some Chead) }
  | 77 => some { desc := Tryd.t76.desc, size := 6, bytes := 16, zero := (.agg [1, 1, 1, 1, 1, 1] [(.int .u8 0), (.bool false), (.int .u8 0), (.int .u8 0), (.int .u8 0), (.int .i64 0)]), code := (some Chead) }
  | 79 => some { desc := Tryd.t79.desc, size := 1, bytes := 8, zero := (.raw .nilFunc), code := none }
  | 81 => some { desc := Tryd.t81.desc, size := 1, bytes := 8, zero := (.raw .nilFunc), code := none }
  | 82 => some { desc := Tryd.t82.desc, size := 1, bytes := 8, zero := (.raw .nilFunc), code := none }
  | 84 => some { desc := Tryd.t84.desc, size := 1, bytes := 8, zero := (.raw .nilFunc), code := none }
  | 85 => some { desc := Tryd.t85.desc, size := 1, bytes := 8, zero := (.raw .nilFunc), code := none }
  | 86 => some { desc := Tryd.t86.desc, size := 1, bytes := 8, zero := (.raw .nilFunc), code := none }
  | 87 => some { desc := (.pointer 89), size := 1, bytes := 8, zero := (.raw (.pointer none)), code := none }
  | 88 => some { desc := Tryd.t88.desc, size := 7, bytes := 32, zero := (.agg [1, 1, 1, 1, 1, 1, 1] [(.raw (.slice none 0 0)), (.bool false), (.int .u8 0), (.bool false), (.int .u8 0), (.int .u8 0), (.int .u8 0)]), code := (some Creader) }
  | 89 => some { desc := Tryd.t88.desc, size := 7, bytes := 32, zero := (.agg [1, 1, 1, 1, 1, 1, 1] [(.raw (.slice none 0 0)), (.bool false), (.int .u8 0), (.bool false), (.int .u8 0), (.int .u8 0), (.int .u8 0)]), code := (some Creader) }
  | 90 => some { desc := Tryd.t90.desc, size := 1, bytes := 8, zero := (.raw .nilFunc), code := none }
  | 92 => some { desc := Tryd.t92.desc, size := 1, bytes := 8, zero := (.raw .nilFunc), code := none }
  | 93 => some { desc := Tryd.t93.desc, size := 1, bytes := 8, zero := (.raw .nilFunc), code := none }
  | 94 => some { desc := (.array 4 1), size := 4, bytes := 32, zero := (.agg [1, 1, 1, 1] [(.raw .nilFunc), (.raw .nilFunc), (.raw .nilFunc), (.raw .nilFunc)]), code := none }
  | 95 => some { desc := Tryd.t95.desc, size := 1, bytes := 8, zero := (.raw .nilFunc), code := none }
  | 96 => some { desc := (.array 9 95), size := 9, bytes := 72, zero := (.agg [1, 1, 1, 1, 1, 1, 1, 1, 1] [(.raw .nilFunc), (.raw .nilFunc), (.raw .nilFunc), (.raw .nilFunc), (.raw .nilFunc), (.raw .nilFunc), (.raw .nilFunc), (.raw .nilFunc), (.raw .nilFunc)]), code := none }
  | 97 => some { desc := Tryd.t97.desc, size := 1, bytes := 8, zero := (.raw .nilFunc), code := none }
  | 98 => some { desc := Tryd.t97.desc, size := 1, bytes := 8, zero := (.raw .nilFunc), code := none }
  | 99 => some { desc := Tryd.t99.desc, size := 1, bytes := 8, zero := (.raw .nilFunc), code := none }
  | 100 => some { desc := Tryd.t100.desc, size := 1, bytes := 8, zero := (.raw .nilFunc), code := none }
  | 101 => some { desc := Tryd.t100.desc, size := 1, bytes := 8, zero := (.raw .nilFunc), code := none }
  | 102 => some { desc := Tryd.t102.desc, size := 1, bytes := 8, zero := (.raw .nilFunc), code := none }
  | 103 => some { desc := Tryd.t103.desc, size := 1, bytes := 8, zero := (.raw .nilFunc), code := none }
  | 104 => some { desc := Tryd.t104.desc, size := 1, bytes := 8, zero := (.raw .nilFunc), code := none }
  | 106 => some { desc := Tryd.t106.desc, size := 1, bytes := 8, zero := (.raw .nilFunc), code := none }
  | 107 => some { desc := Tryd.t107.desc, size := 1, bytes := 8, zero := (.raw .nilFunc), code := none }
  | 108 => some { desc := (.slice 28), size := 1, bytes := 24, zero := (.raw (.slice none 0 0)), code := (some (.slice (.slice (.int .u8)))) }
  | 109 => some { desc := Tryd.t109.desc, size := 1, bytes := 8, zero := (.raw .nilFunc), code := none }
  | 110 => some { desc := (.slice 72), size := 1, bytes := 24, zero := (.raw (.slice none 0 0)), code := (some (.slice Crow)) }
  | 111 => some { desc := Tryd.t111.desc, size := 1, bytes := 8, zero := (.raw .nilFunc), code := none }
  | 112 => some { desc := Tryd.t112.desc, size := 1, bytes := 8, zero := (.raw .nilFunc), code := none }
  | 113 => some { desc := Tryd.t113.desc, size := 1, bytes := 8, zero := (.raw .nilFunc), code := none }
  | 114 => some { desc := (.int .u64), size := 1, bytes := 8, zero := (.int .u64 0), code := (some (.int .u64)) }
  | 115 => some { desc := Tryd.t115.desc, size := 1, bytes := 8, zero := (.raw .nilFunc), code := none }
  | 117 => some { desc := Tryd.t117.desc, size := 1, bytes := 8, zero := (.raw .nilFunc), code := none }
  | 118 => some { desc := Tryd.t118.desc, size := 1, bytes := 8, zero := (.raw .nilFunc), code := none }
  | 119 => some { desc := Tryd.t119.desc, size := 1, bytes := 8, zero := (.raw .nilFunc), code := none }
  | 121 => some { desc := Tryd.t121.desc, size := 1, bytes := 8, zero := (.raw .nilFunc), code := none }
  | 122 => some { desc := Tryd.t122.desc, size := 1, bytes := 8, zero := (.raw .nilFunc), code := none }
  | 123 => some { desc := Tryd.t123.desc, size := 1, bytes := 8, zero := (.raw .nilFunc), code := none }
  | 124 => some { desc := (.array 5 3), size := 5, bytes := 40, zero := (.arr 5 (.int .i64) (List.replicate 5 (0 : Int))), code := (some (.arr 5 (.int .i64))) }
  | 125 => some { desc := (.array 5 5), size := 5, bytes := 5, zero := (.arr 5 (.int .u8) (List.replicate 5 (0 : Int))), code := (some (.arr 5 (.int .u8))) }
  | 126 => some { desc := Tryd.t126.desc, size := 1, bytes := 8, zero := (.raw .nilFunc), code := none }
  | 127 => some { desc := (.slice 59), size := 1, bytes := 24, zero := (.raw (.slice none 0 0)), code := none }
  | 128 => some { desc := Tryd.t128.desc, size := 1, bytes := 8, zero := (.raw .nilFunc), code := none }
  | 129 => some { desc := Tryd.t129.desc, size := 1, bytes := 8, zero := (.raw .nilFunc), code := none }
  | 130 => some { desc := (.int .i8), size := 1, bytes := 1, zero := (.int .i8 0), code := (some (.int .i8)) }
  | 131 => some { desc := Tryd.t131.desc, size := 1, bytes := 8, zero := (.raw .nilFunc), code := none }
  | 132 => some { desc := (.int .u32), size := 1, bytes := 4, zero := (.int .u32 0), code := (some (.int .u32)) }
  | 133 => some { desc := Tryd.t133.desc, size := 1, bytes := 8, zero := (.raw .nilFunc), code := none }
  | 134 => some { desc := Tryd.t134.desc, size := 1, bytes := 8, zero := (.raw .nilFunc), code := none }
  | 135 => some { desc := Tryd.t135.desc, size := 1, bytes := 8, zero := (.raw .nilFunc), code := none }
  | 136 => some { desc := Tryd.t136.desc, size := 1, bytes := 8, zero := (.raw .nilFunc), code := none }
  | 138 => some { desc := Tryd.t138.desc, size := 1, bytes := 8, zero := (.raw .nilFunc), code := none }
  | 139 => some { desc := Tryd.t139.desc, size := 1, bytes := 8, zero := (.raw .nilFunc), code := none }
  | 140 => some { desc := Tryd.t140.desc, size := 1, bytes := 8, zero := (.raw .nilFunc), code := none }
  | 141 => some { desc := Tryd.t141.desc, size := 1, bytes := 8, zero := (.raw .nilFunc), code := none }
  | 142 => some { desc := Tryd.t141.desc, size := 1, bytes := 8, zero := (.raw .nilFunc), code := none }
  | 143 => some { desc := Tryd.t143.desc, size := 1, bytes := 8, zero := (.raw .nilFunc), code := none }
  | 144 => some { desc := Tryd.t144.desc, size := 1, bytes := 8, zero := (.raw .nilFunc), code := none }
  | 145 => some { desc := (.array 4 3), size := 4, bytes := 32, zero := (.arr 4 (.int .i64) (List.replicate 4 (0 : Int))), code := (some (.arr 4 (.int .i64))) }
  | 146 => some { desc := Tryd.t146.desc, size := 1, bytes := 8, zero := (.raw .nilFunc), code := none }
  | 147 => some { desc := Tryd.t146.desc, size := 1, bytes := 8, zero := (.raw .nilFunc), code := none }
  | 148 => some { desc := Tryd.t148.desc, size := 1, bytes := 8, zero := (.raw .nilFunc), code := none }
  | 149 => some { desc := (.map 5 3), size := 1, bytes := 8, zero := (.raw (.map none)), code := none }
  | 150 => some { desc := Tryd.t150.desc, size := 1, bytes := 8, zero := (.raw .nilFunc), code := none }
  | 151 => some { desc := Tryd.t151.desc, size := 1, bytes := 8, zero := (.raw .nilFunc), code := none }
  | 152 => some { desc := Tryd.t152.desc, size := 1, bytes := 8, zero := (.raw .nilFunc), code := none }
  | 153 => some { desc := Tryd.t153.desc, size := 1, bytes := 8, zero := (.raw .nilFunc), code := none }
  | 154 => some { desc := Tryd.t154.desc, size := 1, bytes := 8, zero := (.raw .nilFunc), code := none }
  | 155 => some { desc := Tryd.t155.desc, size := 1, bytes := 8, zero := (.raw .nilFunc), code := none }
  | 156 => some { desc := (.map 5 153), size := 1, bytes := 8, zero := (.raw (.map none)), code := none }
  | 158 => some { desc := Tryd.t158.desc, size := 1, bytes := 8, zero := (.raw .nilFunc), code := none }
  | 159 => some { desc := (.array 32 5), size := 32, bytes := 32, zero := (.arr 32 (.int .u8) (List.replicate 32 (0 : Int))), code := (some (.arr 32 (.int .u8))) }
  | 160 => some { desc := (.array 64 5), size := 64, bytes := 64, zero := (.arr 64 (.int .u8) (List.replicate 64 (0 : Int))), code := (some (.arr 64 (.int .u8))) }
  | 161 => some { desc := Tryd.t161.desc, size := 1, bytes := 8, zero := (.raw .nilFunc), code := none }
  | 162 => some { desc := Tryd.t162.desc, size := 1, bytes := 8, zero := (.raw .nilFunc), code := none }
  | 163 => some { desc := (.array 4 48), size := 4, bytes := 96, zero := (.arr 4 (.slice CForm) (List.replicate 4 ([] : List DForm))), code := (some (.arr 4 (.slice CForm))) }
  | 164 => some { desc := Tryd.t164.desc, size := 1, bytes := 8, zero := (.raw .nilFunc), code := none }
  | 165 => some { desc := Tryd.t165.desc, size := 1, bytes := 8, zero := (.raw .nilFunc), code := none }
  | 166 => some { desc := Tryd.t166.desc, size := 1, bytes := 8, zero := (.raw .nilFunc), code := none }
  | 167 => some { desc := Tryd.t167.desc, size := 1, bytes := 8, zero := (.raw .nilFunc), code := none }
  | 168 => some { desc := Tryd.t168.desc, size := 3, bytes := 24, zero := (.agg [1, 1, 1] [(.int .u8 0), (.int .i64 0), (.int .u8 0)]), code := (some (.st (.int .u8) (.st (.int .i64) (.st1 (.int .u8))))) }
  | 169 => some { desc := (.array 6 168), size := 18, bytes := 144, zero := (.arr 6 (.st (.int .u8) (.st (.int .i64) (.st1 (.int .u8)))) (List.replicate 6 (0, (0, 0)))), code := (some (.arr 6 (.st (.int .u8) (.st (.int .i64) (.st1 (.int .u8)))))) }
  | 170 => some { desc := Tryd.t170.desc, size := 1, bytes := 8, zero := (.raw .nilFunc), code := none }
  | 171 => some { desc := Tryd.t171.desc, size := 1, bytes := 8, zero := (.raw .nilFunc), code := none }
  | 172 => some { desc := Tryd.t172.desc, size := 1, bytes := 8, zero := (.raw .nilFunc), code := none }
  | 173 => some { desc := Tryd.t173.desc, size := 1, bytes := 8, zero := (.raw .nilFunc), code := none }
  | 174 => some { desc := Tryd.t174.desc, size := 1, bytes := 8, zero := (.raw .nilFunc), code := none }
  | 175 => some { desc := (.slice 48), size := 1, bytes := 24, zero := (.raw (.slice none 0 0)), code := (some (.slice (.slice CForm))) }
  | 176 => some { desc := Tryd.t176.desc, size := 1, bytes := 8, zero := (.raw .nilFunc), code := none }
  | 177 => some { desc := Tryd.t177.desc, size := 1, bytes := 8, zero := (.raw .nilFunc), code := none }
  | 178 => some { desc := Tryd.t178.desc, size := 1, bytes := 8, zero := (.raw .nilFunc), code := none }
  | 179 => some { desc := Tryd.t179.desc, size := 4, bytes := 40, zero := (.agg [1, 1, 1, 1] [(.raw (.pointer none)), (.raw (.pointer none)), (.raw (.pointer none)), (.str ByteArray.empty)]), code := none }
  | 180 => some { desc := Tryd.t179.desc, size := 4, bytes := 40, zero := (.agg [1, 1, 1, 1] [(.raw (.pointer none)), (.raw (.pointer none)), (.raw (.pointer none)), (.str ByteArray.empty)]), code := none }
  | 181 => some { desc := (.array 0 16), size := 0, bytes := 0, zero := (.agg [] []), code := none }
  | 184 => some { desc := Tryd.t184.desc, size := 1, bytes := 8, zero := (.raw .nilFunc), code := none }
  | 185 => some { desc := (.int .u8), size := 1, bytes := 1, zero := (.int .u8 0), code := (some (.int .u8)) }
  | 186 => some { desc := (.int .u8), size := 1, bytes := 1, zero := (.int .u8 0), code := (some (.int .u8)) }
  | 187 => some { desc := Tryd.t187.desc, size := 1, bytes := 8, zero := (.raw .nilFunc), code := none }
  | 188 => some { desc := (.pointer 5), size := 1, bytes := 8, zero := (.raw (.pointer none)), code := none }
  | 189 => some { desc := (.int .i32), size := 1, bytes := 4, zero := (.int .i32 0), code := (some (.int .i32)) }
  | 190 => some { desc := (.int .i32), size := 1, bytes := 4, zero := (.int .i32 0), code := (some (.int .i32)) }
  | 191 => some { desc := Tryd.t191.desc, size := 11, bytes := 48, zero := (.agg [1, 1, 1, 1, 1, 1, 1, 1, 1, 1, 1] [(.int .u64 0), (.int .u64 0), (.int .u32 0), (.int .u8 0), (.int .u8 0), (.int .u8 0), (.int .u8 0), (.raw .nilFunc), (.raw (.pointer none)), (.int .i32 0), (.int .i32 0)]), code := none }
  | 192 => some { desc := Tryd.t191.desc, size := 11, bytes := 48, zero := (.agg [1, 1, 1, 1, 1, 1, 1, 1, 1, 1, 1] [(.int .u64 0), (.int .u64 0), (.int .u32 0), (.int .u8 0), (.int .u8 0), (.int .u8 0), (.int .u8 0), (.raw .nilFunc), (.raw (.pointer none)), (.int .i32 0), (.int .i32 0)]), code := none }
  | _ => none

theorem ty_ok : ∀ t d, ty t = some d → d.ok Tryd.prog t := by
  intro t d h
  unfold ty at h
  split at h
  · cases h; exact ATy.ok_of (i := Tryd.t1) Tryd.underlying1 Tryd.type1 rfl (by kernel_rfl)
  · cases h; exact ATy.ok_of (i := Tryd.t2) Tryd.underlying2 Tryd.type2 rfl (by kernel_rfl)
  · cases h; exact ATy.ok_of (i := Tryd.t3) Tryd.underlying3 Tryd.type3 rfl (by kernel_rfl)
  · cases h; exact ATy.ok_of (i := Tryd.t4) Tryd.underlying4 Tryd.type4 rfl (by kernel_rfl)
  · cases h; exact ATy.ok_of (i := Tryd.t5) Tryd.underlying5 Tryd.type5 rfl (by kernel_rfl)
  · cases h; exact ATy.ok_of (i := Tryd.t6) Tryd.underlying6 Tryd.type6 rfl (by kernel_rfl)
  · cases h; exact ATy.ok_of (i := Tryd.t7) Tryd.underlying7 Tryd.type7 rfl (by kernel_rfl)
  · cases h; exact ATy.ok_of (i := Tryd.t8) Tryd.underlying8 Tryd.type8 rfl (by kernel_rfl)
  · cases h; exact ATy.ok_of (i := Tryd.t9) Tryd.underlying9 Tryd.type9 rfl (by kernel_rfl)
  · cases h; exact ATy.ok_of (i := Tryd.t10) Tryd.underlying10 Tryd.type10 rfl (by kernel_rfl)
  · cases h; exact ATy.ok_of (i := Tryd.t11) Tryd.underlying11 Tryd.type11 rfl (by kernel_rfl)
  · cases h; exact ATy.ok_of (i := Tryd.t12) Tryd.underlying12 Tryd.type12 rfl (by kernel_rfl)
  · cases h; exact ATy.ok_of (i := Tryd.t13) Tryd.underlying13 Tryd.type13 rfl (by kernel_rfl)
  · cases h; exact ATy.ok_of (i := Tryd.t14) Tryd.underlying14 Tryd.type14 rfl (by kernel_rfl)
  · cases h; exact ATy.ok_of (i := Tryd.t15) Tryd.underlying15 Tryd.type15 rfl (by kernel_rfl)
  · cases h; exact ATy.ok_of (i := Tryd.t16) Tryd.underlying16 Tryd.type16 rfl (by kernel_rfl)
  · cases h; exact ATy.ok_of (i := Tryd.t17) Tryd.underlying17 Tryd.type17 rfl (by kernel_rfl)
  · cases h; exact ATy.ok_of (i := Tryd.t18) Tryd.underlying18 Tryd.type18 rfl (by kernel_rfl)
  · cases h; exact ATy.ok_of (i := Tryd.t19) Tryd.underlying19 Tryd.type19 rfl (by kernel_rfl)
  · cases h; exact ATy.ok_of (i := Tryd.t20) Tryd.underlying20 Tryd.type20 rfl (by kernel_rfl)
  · cases h; exact ATy.ok_of (i := Tryd.t21) Tryd.underlying21 Tryd.type21 rfl (by kernel_rfl)
  · cases h; exact ATy.ok_of (i := Tryd.t22) Tryd.underlying22 Tryd.type22 rfl (by kernel_rfl)
  · cases h; exact ATy.ok_of (i := Tryd.t23) Tryd.underlying23 Tryd.type23 rfl (by kernel_rfl)
  · cases h; exact ATy.ok_of (i := Tryd.t24) Tryd.underlying24 Tryd.type24 rfl (by kernel_rfl)
  · cases h; exact ATy.ok_of (i := Tryd.t25) Tryd.underlying25 Tryd.type25 rfl (by kernel_rfl)
  · cases h; exact ATy.ok_of (i := Tryd.t26) Tryd.underlying26 Tryd.type26 rfl (by kernel_rfl)
  · cases h; exact ATy.ok_of (i := Tryd.t27) Tryd.underlying27 Tryd.type27 rfl (by kernel_rfl)
  · cases h; exact ATy.ok_of (i := Tryd.t28) Tryd.underlying28 Tryd.type28 rfl (by kernel_rfl)
  · cases h; exact ATy.ok_of (i := Tryd.t29) Tryd.underlying29 Tryd.type29 rfl (by kernel_rfl)
  · cases h; exact ATy.ok_of (i := Tryd.t31) Tryd.underlying31 Tryd.type31 rfl (by kernel_rfl)
  · cases h; exact ATy.ok_of (i := Tryd.t32) Tryd.underlying32 Tryd.type32 rfl (by kernel_rfl)
  · cases h; exact ATy.ok_of (i := Tryd.t33) Tryd.underlying33 Tryd.type33 rfl (by kernel_rfl)
  · cases h; exact ATy.ok_of (i := Tryd.t34) Tryd.underlying34 Tryd.type34 rfl (by kernel_rfl)
  · cases h; exact ATy.ok_of (i := Tryd.t35) Tryd.underlying35 Tryd.type35 rfl (by kernel_rfl)
  · cases h; exact ATy.ok_of (i := Tryd.t36) Tryd.underlying36 Tryd.type36 rfl (by kernel_rfl)
  · cases h; exact ATy.ok_of (i := Tryd.t37) Tryd.underlying37 Tryd.type37 rfl (by kernel_rfl)
  · cases h; exact ATy.ok_of (i := Tryd.t38) Tryd.underlying38 Tryd.type38 rfl (by kernel_rfl)
  · cases h; exact ATy.ok_of (i := Tryd.t39) Tryd.underlying39 Tryd.type39 rfl (by kernel_rfl)
  · cases h; exact ATy.ok_of (i := Tryd.t41) Tryd.underlying41 Tryd.type41 rfl (by kernel_rfl)
  · cases h; exact ATy.ok_of (i := Tryd.t42) Tryd.underlying42 Tryd.type42 rfl (by kernel_rfl)
  · cases h; exact ATy.ok_of (i := Tryd.t44) Tryd.underlying44 Tryd.type44 rfl (by kernel_rfl)
  · cases h; exact ATy.ok_of (i := Tryd.t45) Tryd.underlying45 Tryd.type45 rfl (by kernel_rfl)
  · cases h; exact ATy.ok_of (i := Tryd.t46) Tryd.underlying46 Tryd.type46 rfl (by kernel_rfl)
  · cases h; exact ATy.ok_of (i := Tryd.t47) Tryd.underlying47 Tryd.type47 rfl (by kernel_rfl)
  · cases h; exact ATy.ok_of (i := Tryd.t48) Tryd.underlying48 Tryd.type48 rfl (by kernel_rfl)
  · cases h; exact ATy.ok_of (i := Tryd.t49) Tryd.underlying49 Tryd.type49 rfl (by kernel_rfl)
  · cases h; exact ATy.ok_of (i := Tryd.t50) Tryd.underlying50 Tryd.type50 rfl (by kernel_rfl)
  · cases h; exact ATy.ok_of (i := Tryd.t51) Tryd.underlying51 Tryd.type51 rfl (by kernel_rfl)
  · cases h; exact ATy.ok_of (i := Tryd.t52) Tryd.underlying52 Tryd.type52 rfl (by kernel_rfl)
  · cases h; exact ATy.ok_of (i := Tryd.t53) Tryd.underlying53 Tryd.type53 rfl (by kernel_rfl)
  · cases h; exact ATy.ok_of (i := Tryd.t54) Tryd.underlying54 Tryd.type54 rfl (by kernel_rfl)
  · cases h; exact ATy.ok_of (i := Tryd.t55) Tryd.underlying55 Tryd.type55 rfl (by kernel_rfl)
  · cases h; exact ATy.ok_of (i := Tryd.t56) Tryd.underlying56 Tryd.type56 rfl (by kernel_rfl)
  · cases h; exact ATy.ok_of (i := Tryd.t57) Tryd.underlying57 Tryd.type57 rfl (by kernel_rfl)
  · cases h; exact ATy.ok_of (i := Tryd.t58) Tryd.underlying58 Tryd.type58 rfl (by kernel_rfl)
  · cases h; exact ATy.ok_of (i := Tryd.t59) Tryd.underlying59 Tryd.type59 rfl (by kernel_rfl)
  · cases h; exact ATy.ok_of (i := Tryd.t60) Tryd.underlying60 Tryd.type60 rfl (by kernel_rfl)
  · cases h; exact ATy.ok_of (i := Tryd.t61) Tryd.underlying61 Tryd.type61 rfl (by kernel_rfl)
  · cases h; exact ATy.ok_of (i := Tryd.t62) Tryd.underlying62 Tryd.type62 rfl (by kernel_rfl)
  · cases h; exact ATy.ok_of (i := Tryd.t63) Tryd.underlying63 Tryd.type63 rfl (by kernel_rfl)
  · cases h; exact ATy.ok_of (i := Tryd.t65) Tryd.underlying65 Tryd.type65 rfl (by kernel_rfl)
  · cases h; exact ATy.ok_of (i := Tryd.t66) Tryd.underlying66 Tryd.type66 rfl (by kernel_rfl)
  · cases h; exact ATy.ok_of (i := Tryd.t67) Tryd.underlying67 Tryd.type67 rfl (by kernel_rfl)
  · cases h; exact ATy.ok_of (i := Tryd.t69) Tryd.underlying69 Tryd.type69 rfl (by kernel_rfl)
  · cases h; exact ATy.ok_of (i := Tryd.t70) Tryd.underlying70 Tryd.type70 rfl (by kernel_rfl)
  · cases h; exact ATy.ok_of (i := Tryd.t71) Tryd.underlying71 Tryd.type71 rfl (by kernel_rfl)
  · cases h; exact ATy.ok_of (i := Tryd.t72) Tryd.underlying72 Tryd.type72 rfl (by kernel_rfl)
  · cases h; exact ATy.ok_of (i := Tryd.t74) Tryd.underlying74 Tryd.type74 rfl (by kernel_rfl)
  · cases h; exact ATy.ok_of (i := Tryd.t75) Tryd.underlying75 Tryd.type75 rfl (by kernel_rfl)
  · cases h; exact ATy.ok_of (i := Tryd.t76) Tryd.underlying76 Tryd.type76 rfl (by kernel_rfl)
  · cases h; exact ATy.ok_of (i := Tryd.t77) Tryd.underlying77 Tryd.type77 rfl (by kernel_rfl)
  · cases h; exact ATy.ok_of (i := Tryd.t79) Tryd.underlying79 Tryd.type79 rfl (by kernel_rfl)
  · cases h; exact ATy.ok_of (i := Tryd.t81) Tryd.underlying81 Tryd.type81 rfl (by kernel_rfl)
  · cases h; exact ATy.ok_of (i := Tryd.t82) Tryd.underlying82 Tryd.type82 rfl (by kernel_rfl)
  · cases h; exact ATy.ok_of (i := Tryd.t84) Tryd.underlying84 Tryd.type84 rfl (by kernel_rfl)
  · cases h; exact ATy.ok_of (i := Tryd.t85) Tryd.underlying85 Tryd.type85 rfl (by kernel_rfl)
  · cases h; exact ATy.ok_of (i := Tryd.t86) Tryd.underlying86 Tryd.type86 rfl (by kernel_rfl)
  · cases h; exact ATy.ok_of (i := Tryd.t87) Tryd.underlying87 Tryd.type87 rfl (by kernel_rfl)
  · cases h; exact ATy.ok_of (i := Tryd.t88) Tryd.underlying88 Tryd.type88 rfl (by kernel_rfl)
  · cases h; exact ATy.ok_of (i := Tryd.t89) Tryd.underlying89 Tryd.type89 rfl (by kernel_rfl)
  · cases h; exact ATy.ok_of (i := Tryd.t90) Tryd.underlying90 Tryd.type90 rfl (by kernel_rfl)
  · cases h; exact ATy.ok_of (i := Tryd.t92) Tryd.underlying92 Tryd.type92 rfl (by kernel_rfl)
  · cases h; exact ATy.ok_of (i := Tryd.t93) Tryd.underlying93 Tryd.type93 rfl (by kernel_rfl)
  · cases h; exact ATy.ok_of (i := Tryd.t94) Tryd.underlying94 Tryd.type94 rfl (by kernel_rfl)
  · cases h; exact ATy.ok_of (i := Tryd.t95) Tryd.underlying95 Tryd.type95 rfl (by kernel_rfl)
  · cases h; exact ATy.ok_of (i := Tryd.t96) Tryd.underlying96 Tryd.type96 rfl (by kernel_rfl)
  · cases h; exact ATy.ok_of (i := Tryd.t97) Tryd.underlying97 Tryd.type97 rfl (by kernel_rfl)
  · cases h; exact ATy.ok_of (i := Tryd.t98) Tryd.underlying98 Tryd.type98 rfl (by kernel_rfl)
  · cases h; exact ATy.ok_of (i := Tryd.t99) Tryd.underlying99 Tryd.type99 rfl (by kernel_rfl)
  · cases h; exact ATy.ok_of (i := Tryd.t100) Tryd.underlying100 Tryd.type100 rfl (by kernel_rfl)
  · cases h; exact ATy.ok_of (i := Tryd.t101) Tryd.underlying101 Tryd.type101 rfl (by kernel_rfl)
  · cases h; exact ATy.ok_of (i := Tryd.t102) Tryd.underlying102 Tryd.type102 rfl (by kernel_rfl)
  · cases h; exact ATy.ok_of (i := Tryd.t103) Tryd.underlying103 Tryd.type103 rfl (by kernel_rfl)
  · cases h; exact ATy.ok_of (i := Tryd.t104) Tryd.underlying104 Tryd.type104 rfl (by kernel_rfl)
  · cases h; exact ATy.ok_of (i := Tryd.t106) Tryd.underlying106 Tryd.type106 rfl (by kernel_rfl)
  · cases h; exact ATy.ok_of (i := Tryd.t107) Tryd.underlying107 Tryd.type107 rfl (by kernel_rfl)
  · cases h; exact ATy.ok_of (i := Tryd.t108) Tryd.underlying108 Tryd.type108 rfl (by kernel_rfl)
  · cases h; exact ATy.ok_of (i := Tryd.t109) Tryd.underlying109 Tryd.type109 rfl (by kernel_rfl)
  · cases h; exact ATy.ok_of (i := Tryd.t110) Tryd.underlying110 Tryd.type110 rfl (by kernel_rfl)
  · cases h; exact ATy.ok_of (i := Tryd.t111) Tryd.underlying111 Tryd.type111 rfl (by kernel_rfl)
  · cases h; exact ATy.ok_of (i := Tryd.t112) Tryd.underlying112 Tryd.type112 rfl (by kernel_rfl)
  · cases h; exact ATy.ok_of (i := Tryd.t113) Tryd.underlying113 Tryd.type113 rfl (by kernel_rfl)
  · cases h; exact ATy.ok_of (i := Tryd.t114) Tryd.underlying114 Tryd.type114 rfl (by kernel_rfl)
  · cases h; exact ATy.ok_of (i := Tryd.t115) Tryd.underlying115 Tryd.type115 rfl (by kernel_rfl)
  · cases h; exact ATy.ok_of (i := Tryd.t117) Tryd.underlying117 Tryd.type117 rfl (by kernel_rfl)
  · cases h; exact ATy.ok_of (i := Tryd.t118) Tryd.underlying118 Tryd.type118 rfl (by kernel_rfl)
  · cases h; exact ATy.ok_of (i := Tryd.t119) Tryd.underlying119 Tryd.type119 rfl (by kernel_rfl)
  · cases h; exact ATy.ok_of (i := Tryd.t121) Tryd.underlying121 Tryd.type121 rfl (by kernel_rfl)
  · cases h; exact ATy.ok_of (i := Tryd.t122) Tryd.underlying122 Tryd.type122 rfl (by kernel_rfl)
  · cases h; exact ATy.ok_of (i := Tryd.t123) Tryd.underlying123 Tryd.type123 rfl (by kernel_rfl)
  · cases h; exact ATy.ok_of (i := Tryd.t124) Tryd.underlying124 Tryd.type124 rfl (by kernel_rfl)
  · cases h; exact ATy.ok_of (i := Tryd.t125) Tryd.underlying125 Tryd.type125 rfl (by kernel_rfl)
  · cases h; exact ATy.ok_of (i := Tryd.t126) Tryd.underlying126 Tryd.type126 rfl (by kernel_rfl)
  · cases h; exact ATy.ok_of (i := Tryd.t127) Tryd.underlying127 Tryd.type127 rfl (by kernel_rfl)
  · cases h; exact ATy.ok_of (i := Tryd.t128) Tryd.underlying128 Tryd.type128 rfl (by kernel_rfl)
  · cases h; exact ATy.ok_of (i := Tryd.t129) Tryd.underlying129 Tryd.type129 rfl (by kernel_rfl)
  · cases h; exact ATy.ok_of (i := Tryd.t130) Tryd.underlying130 Tryd.type130 rfl (by kernel_rfl)
  · cases h; exact ATy.ok_of (i := Tryd.t131) Tryd.underlying131 Tryd.type131 rfl (by kernel_rfl)
  · cases h; exact ATy.ok_of (i := Tryd.t132) Tryd.underlying132 Tryd.type132 rfl (by kernel_rfl)
  · cases h; exact ATy.ok_of (i := Tryd.t133) Tryd.underlying133 Tryd.type133 rfl (by kernel_rfl)
  · cases h; exact ATy.ok_of (i := Tryd.t134) Tryd.underlying134 Tryd.type134 rfl (by kernel_rfl)
  · cases h; exact ATy.ok_of (i := Tryd.t135) Tryd.underlying135 Tryd.type135 rfl (by kernel_rfl)
  · cases h; exact ATy.ok_of (i := Tryd.t136) Tryd.underlying136 Tryd.type136 rfl (by kernel_rfl)
  · cases h; exact ATy.ok_of (i := Tryd.t138) Tryd.underlying138 Tryd.type138 rfl (by kernel_rfl)
  · cases h; exact ATy.ok_of (i := Tryd.t139) Tryd.underlying139 Tryd.type139 rfl (by kernel_rfl)
  · cases h; exact ATy.ok_of (i := Tryd.t140) Tryd.underlying140 Tryd.type140 rfl (by kernel_rfl)
  · cases h; exact ATy.ok_of (i := Tryd.t141) Tryd.underlying141 Tryd.type141 rfl (by kernel_rfl)
  · cases h; exact ATy.ok_of (i := Tryd.t142) Tryd.underlying142 Tryd.type142 rfl (by kernel_rfl)
  · cases h; exact ATy.ok_of (i := Tryd.t143) Tryd.underlying143 Tryd.type143 rfl (by kernel_rfl)
  · cases h; exact ATy.ok_of (i := Tryd.t144) Tryd.underlying144 Tryd.type144 rfl (by kernel_rfl)
  · cases h; exact ATy.ok_of (i := Tryd.t145) Tryd.underlying145 Tryd.type145 rfl (by kernel_rfl)
  · cases h; exact ATy.ok_of (i := Tryd.t146) Tryd.underlying146 Tryd.type146 rfl (by kernel_rfl)
  · cases h; exact ATy.ok_of (i := Tryd.t147) Tryd.underlying147 Tryd.type147 rfl (by kernel_rfl)
  · cases h; exact ATy.ok_of (i := Tryd.t148) Tryd.underlying148 Tryd.type148 rfl (by kernel_rfl)
  · cases h; exact ATy.ok_of (i := Tryd.t149) Tryd.underlying149 Tryd.type149 rfl (by kernel_rfl)
  · cases h; exact ATy.ok_of (i := Tryd.t150) Tryd.underlying150 Tryd.type150 rfl (by kernel_rfl)
  · cases h; exact ATy.ok_of (i := Tryd.t151) Tryd.underlying151 Tryd.type151 rfl (by kernel_rfl)
  · cases h; exact ATy.ok_of (i := Tryd.t152) Tryd.underlying152 Tryd.type152 rfl (by kernel_rfl)
  · cases h; exact ATy.ok_of (i := Tryd.t153) Tryd.underlying153 Tryd.type153 rfl (by kernel_rfl)
  · cases h; exact ATy.ok_of (i := Tryd.t154) Tryd.underlying154 Tryd.type154 rfl (by kernel_rfl)
  · cases h; exact ATy.ok_of (i := Tryd.t155) Tryd.underlying155 Tryd.type155 rfl (by kernel_rfl)
  · cases h; exact ATy.ok_of (i := Tryd.t156) Tryd.underlying156 Tryd.type156 rfl (by kernel_rfl)
  · cases h; exact ATy.ok_of (i := Tryd.t158) Tryd.underlying158 Tryd.type158 rfl (by kernel_rfl)
  · cases h; exact ATy.ok_of (i := Tryd.t159) Tryd.underlying159 Tryd.type159 rfl (by kernel_rfl)
  · cases h; exact ATy.ok_of (i := Tryd.t160) Tryd.underlying160 Tryd.type160 rfl (by kernel_rfl)
  · cases h; exact ATy.ok_of (i := Tryd.t161) Tryd.underlying161 Tryd.type161 rfl (by kernel_rfl)
  · cases h; exact ATy.ok_of (i := Tryd.t162) Tryd.underlying162 Tryd.type162 rfl (by kernel_rfl)
  · cases h; exact ATy.ok_of (i := Tryd.t163) Tryd.underlying163 Tryd.type163 rfl (by kernel_rfl)
  · cases h; exact ATy.ok_of (i := Tryd.t164) Tryd.underlying164 Tryd.type164 rfl (by kernel_rfl)
  · cases h; exact ATy.ok_of (i := Tryd.t165) Tryd.underlying165 Tryd.type165 rfl (by kernel_rfl)
  · cases h; exact ATy.ok_of (i := Tryd.t166) Tryd.underlying166 Tryd.type166 rfl (by kernel_rfl)
  · cases h; exact ATy.ok_of (i := Tryd.t167) Tryd.underlying167 Tryd.type167 rfl (by kernel_rfl)
  · cases h; exact ATy.ok_of (i := Tryd.t168) Tryd.underlying168 Tryd.type168 rfl (by kernel_rfl)
  · cases h; exact ATy.ok_of (i := Tryd.t169) Tryd.underlying169 Tryd.type169 rfl (by kernel_rfl)
  · cases h; exact ATy.ok_of (i := Tryd.t170) Tryd.underlying170 Tryd.type170 rfl (by kernel_rfl)
  · cases h; exact ATy.ok_of (i := Tryd.t171) Tryd.underlying171 Tryd.type171 rfl (by kernel_rfl)
  · cases h; exact ATy.ok_of (i := Tryd.t172) Tryd.underlying172 Tryd.type172 rfl (by kernel_rfl)
  · cases h; exact ATy.ok_of (i := Tryd.t173) Tryd.underlying173 Tryd.type173 rfl (by kernel_rfl)
  · cases h; exact ATy.ok_of (i := Tryd.t174) Tryd.underlying174 Tryd.type174 rfl (by kernel_rfl)
  · cases h; exact ATy.ok_of (i := Tryd.t175) Tryd.underlying175 Tryd.type175 rfl (by kernel_rfl)
  · cases h; exact ATy.ok_of (i := Tryd.t176) Tryd.underlying176 Tryd.type176 rfl (by kernel_rfl)
  · cases h; exact ATy.ok_of (i := Tryd.t177) Tryd.underlying177 Tryd.type177 rfl (by kernel_rfl)
  · cases h; exact ATy.ok_of (i := Tryd.t178) Tryd.underlying178 Tryd.type178 rfl (by kernel_rfl)
  · cases h; exact ATy.ok_of (i := Tryd.t179) Tryd.underlying179 Tryd.type179 rfl (by kernel_rfl)
  · cases h; exact ATy.ok_of (i := Tryd.t180) Tryd.underlying180 Tryd.type180 rfl (by kernel_rfl)
  · cases h; exact ATy.ok_of (i := Tryd.t181) Tryd.underlying181 Tryd.type181 rfl (by kernel_rfl)
  · cases h; exact ATy.ok_of (i := Tryd.t184) Tryd.underlying184 Tryd.type184 rfl (by kernel_rfl)
  · cases h; exact ATy.ok_of (i := Tryd.t185) Tryd.underlying185 Tryd.type185 rfl (by kernel_rfl)
  · cases h; exact ATy.ok_of (i := Tryd.t186) Tryd.underlying186 Tryd.type186 rfl (by kernel_rfl)
  · cases h; exact ATy.ok_of (i := Tryd.t187) Tryd.underlying187 Tryd.type187 rfl (by kernel_rfl)
  · cases h; exact ATy.ok_of (i := Tryd.t188) Tryd.underlying188 Tryd.type188 rfl (by kernel_rfl)
  · cases h; exact ATy.ok_of (i := Tryd.t189) Tryd.underlying189 Tryd.type189 rfl (by kernel_rfl)
  · cases h; exact ATy.ok_of (i := Tryd.t190) Tryd.underlying190 Tryd.type190 rfl (by kernel_rfl)
  · cases h; exact ATy.ok_of (i := Tryd.t191) Tryd.underlying191 Tryd.type191 rfl (by kernel_rfl)
  · cases h; exact ATy.ok_of (i := Tryd.t192) Tryd.underlying192 Tryd.type192 rfl (by kernel_rfl)
  · cases h

noncomputable def fns : FuncId → Option Func
  | 8 => some Tryd.f8
  | 9 => some Tryd.f9
  | 10 => some Tryd.f10
  | 11 => some Tryd.f11
  | 12 => some Tryd.f12
  | 25 => some Tryd.f25
  | 26 => some Tryd.f26
  | 27 => some Tryd.f27
  | 28 => some Tryd.f28
  | 29 => some Tryd.f29
  | 30 => some Tryd.f30
  | 31 => some Tryd.f31
  | 32 => some Tryd.f32
  | 33 => some Tryd.f33
  | 34 => some Tryd.f34
  | 35 => some Tryd.f35
  | 47 => some Tryd.f47
  | 48 => some Tryd.f48
  | 49 => some Tryd.f49
  | 50 => some Tryd.f50
  | 51 => some Tryd.f51
  | 52 => some Tryd.f52
  | 53 => some Tryd.f53
  | 54 => some Tryd.f54
  | 55 => some Tryd.f55
  | 56 => some Tryd.f56
  | 57 => some Tryd.f57
  | 58 => some Tryd.f58
  | 59 => some Tryd.f59
  | 60 => some Tryd.f60
  | 61 => some Tryd.f61
  | 62 => some Tryd.f62
  | 63 => some Tryd.f63
  | 64 => some Tryd.f64
  | 65 => some Tryd.f65
  | 81 => some Tryd.f81
  | 82 => some Tryd.f82
  | 83 => some Tryd.f83
  | 84 => some Tryd.f84
  | 85 => some Tryd.f85
  | 86 => some Tryd.f86
  | 87 => some Tryd.f87
  | 88 => some Tryd.f88
  | 89 => some Tryd.f89
  | 90 => some Tryd.f90
  | 91 => some Tryd.f91
  | 92 => some Tryd.f92
  | 93 => some Tryd.f93
  | 94 => some Tryd.f94
  | 95 => some Tryd.f95
  | 96 => some Tryd.f96
  | 104 => some Tryd.f104
  | 105 => some Tryd.f105
  | 106 => some Tryd.f106
  | 107 => some Tryd.f107
  | 108 => some Tryd.f108
  | 109 => some Tryd.f109
  | 110 => some Tryd.f110
  | 111 => some Tryd.f111
  | 112 => some Tryd.f112
  | 113 => some Tryd.f113
  | 114 => some Tryd.f114
  | 115 => some Tryd.f115
  | 116 => some Tryd.f116
  | 157 => some Tryd.f157
  | 158 => some Tryd.f158
  | 159 => some Tryd.f159
  | 160 => some Tryd.f160
  | 161 => some Tryd.f161
  | 162 => some Tryd.f162
  | 163 => some Tryd.f163
  | 164 => some Tryd.f164
  | 167 => some Tryd.f167
  | 168 => some Tryd.f168
  | 169 => some Tryd.f169
  | 170 => some Tryd.f170
  | 171 => some Tryd.f171
  | 172 => some Tryd.f172
  | 174 => some Tryd.f174
  | 175 => some Tryd.f175
  | 176 => some Tryd.f176
  | 177 => some Tryd.f177
  | 194 => some Tryd.f194
  | 195 => some Tryd.f195
  | 196 => some Tryd.f196
  | 197 => some Tryd.f197
  | 198 => some Tryd.f198
  | 199 => some Tryd.f199
  | 200 => some Tryd.f200
  | 201 => some Tryd.f201
  | 202 => some Tryd.f202
  | _ => none

theorem fns_ok : ∀ f fn, fns f = some fn → Tryd.prog.funcs[f]? = some fn ∧ (fn.name == "runtime.NumGoroutine") = false := by
  intro f fn h
  unfold fns at h
  split at h
  · cases h; exact ⟨Tryd.func8, by kernel_rfl⟩
  · cases h; exact ⟨Tryd.func9, by kernel_rfl⟩
  · cases h; exact ⟨Tryd.func10, by kernel_rfl⟩
  · cases h; exact ⟨Tryd.func11, by kernel_rfl⟩
  · cases h; exact ⟨Tryd.func12, by kernel_rfl⟩
  · cases h; exact ⟨Tryd.func25, by kernel_rfl⟩
  · cases h; exact ⟨Tryd.func26, by kernel_rfl⟩
  · cases h; exact ⟨Tryd.func27, by kernel_rfl⟩
  · cases h; exact ⟨Tryd.func28, by kernel_rfl⟩
  · cases h; exact ⟨Tryd.func29, by kernel_rfl⟩
  · cases h; exact ⟨Tryd.func30, by kernel_rfl⟩
  · cases h; exact ⟨Tryd.func31, by kernel_rfl⟩
  · cases h; exact ⟨Tryd.func32, by kernel_rfl⟩
  · cases h; exact ⟨Tryd.func33, by kernel_rfl⟩
  · cases h; exact ⟨Tryd.func34, by kernel_rfl⟩
  · cases h; exact ⟨Tryd.func35, by kernel_rfl⟩
  · cases h; exact ⟨Tryd.func47, by kernel_rfl⟩
  · cases h; exact ⟨Tryd.func48, by kernel_rfl⟩
  · cases h; exact ⟨Tryd.func49, by kernel_rfl⟩
  · cases h; exact ⟨Tryd.func50, by kernel_rfl⟩
  · cases h; exact ⟨Tryd.func51, by kernel_rfl⟩
  · cases h; exact ⟨Tryd.func52, by kernel_rfl⟩
  · cases h; exact ⟨Tryd.func53, by kernel_rfl⟩
  · cases h; exact ⟨Tryd.func54, by kernel_rfl⟩
  · cases h; exact ⟨Tryd.func55, by kernel_rfl⟩
  · cases h; exact ⟨Tryd.func56, by kernel_rfl⟩
  · cases h; exact ⟨Tryd.func57, by kernel_rfl⟩
  · cases h; exact ⟨Tryd.func58, by kernel_rfl⟩
  · cases h; exact ⟨Tryd.func59, by kernel_rfl⟩
  · cases h; exact ⟨Tryd.func60, by kernel_rfl⟩
  · cases h; exact ⟨Tryd.func61, by kernel_rfl⟩
  · cases h; exact ⟨Tryd.func62, by kernel_rfl⟩
  · cases h; exact ⟨Tryd.func63, by kernel_rfl⟩
  · cases h; exact ⟨Tryd.func64, by kernel_rfl⟩
  · cases h; exact ⟨Tryd.func65, by kernel_rfl⟩
  · cases h; exact ⟨Tryd.func81, by kernel_rfl⟩
  · cases h; exact ⟨Tryd.func82, by kernel_rfl⟩
  · cases h; exact ⟨Tryd.func83, by kernel_rfl⟩
  · cases h; exact ⟨Tryd.func84, by kernel_rfl⟩
  · cases h; exact ⟨Tryd.func85, by kernel_rfl⟩
  · cases h; exact ⟨Tryd.func86, by kernel_rfl⟩
  · cases h; exact ⟨Tryd.func87, by kernel_rfl⟩
  · cases h; exact ⟨Tryd.func88, by kernel_rfl⟩
  · cases h; exact ⟨Tryd.func89, by kernel_rfl⟩
  · cases h; exact ⟨Tryd.func90, by kernel_rfl⟩
  · cases h; exact ⟨Tryd.func91, by kernel_rfl⟩
  · cases h; exact ⟨Tryd.func92, by kernel_rfl⟩
  · cases h; exact ⟨Tryd.func93, by kernel_rfl⟩
  · cases h; exact ⟨Tryd.func94, by kernel_rfl⟩
  · cases h; exact ⟨Tryd.func95, by kernel_rfl⟩
  · cases h; exact ⟨Tryd.func96, by kernel_rfl⟩
  · cases h; exact ⟨Tryd.func104, by kernel_rfl⟩
  · cases h; exact ⟨Tryd.func105, by kernel_rfl⟩
  · cases h; exact ⟨Tryd.func106, by kernel_rfl⟩
  · cases h; exact ⟨Tryd.func107, by kernel_rfl⟩
  · cases h; exact ⟨Tryd.func108, by kernel_rfl⟩
  · cases h; exact ⟨Tryd.func109, by kernel_rfl⟩
  · cases h; exact ⟨Tryd.func110, by kernel_rfl⟩
  · cases h; exact ⟨Tryd.func111, by kernel_rfl⟩
  · cases h; exact ⟨Tryd.func112, by kernel_rfl⟩
  · cases h; exact ⟨Tryd.func113, by kernel_rfl⟩
  · cases h; exact ⟨Tryd.func114, by kernel_rfl⟩
  · cases h; exact ⟨Tryd.func115, by kernel_rfl⟩
  · cases h; exact ⟨Tryd.func116, by kernel_rfl⟩
  · cases h; exact ⟨Tryd.func157, by kernel_rfl⟩
  · cases h; exact ⟨Tryd.func158, by kernel_rfl⟩
  · cases h; exact ⟨Tryd.func159, by kernel_rfl⟩
  · cases h; exact ⟨Tryd.func160, by kernel_rfl⟩
  · cases h; exact ⟨Tryd.func161, by kernel_rfl⟩
  · cases h; exact ⟨Tryd.func162, by kernel_rfl⟩
  · cases h; exact ⟨Tryd.func163, by kernel_rfl⟩
  · cases h; exact ⟨Tryd.func164, by kernel_rfl⟩
  · cases h; exact ⟨Tryd.func167, by kernel_rfl⟩
  · cases h; exact ⟨Tryd.func168, by kernel_rfl⟩
  · cases h; exact ⟨Tryd.func169, by kernel_rfl⟩
  · cases h; exact ⟨Tryd.func170, by kernel_rfl⟩
  · cases h; exact ⟨Tryd.func171, by kernel_rfl⟩
  · cases h; exact ⟨Tryd.func172, by kernel_rfl⟩
  · cases h; exact ⟨Tryd.func174, by kernel_rfl⟩
  · cases h; exact ⟨Tryd.func175, by kernel_rfl⟩
  · cases h; exact ⟨Tryd.func176, by kernel_rfl⟩
  · cases h; exact ⟨Tryd.func177, by kernel_rfl⟩
  · cases h; exact ⟨Tryd.func194, by kernel_rfl⟩
  · cases h; exact ⟨Tryd.func195, by kernel_rfl⟩
  · cases h; exact ⟨Tryd.func196, by kernel_rfl⟩
  · cases h; exact ⟨Tryd.func197, by kernel_rfl⟩
  · cases h; exact ⟨Tryd.func198, by kernel_rfl⟩
  · cases h; exact ⟨Tryd.func199, by kernel_rfl⟩
  · cases h; exact ⟨Tryd.func200, by kernel_rfl⟩
  · cases h; exact ⟨Tryd.func201, by kernel_rfl⟩
  · cases h; exact ⟨Tryd.func202, by kernel_rfl⟩
  · cases h

theorem mixed : Tryd.prog.follows .mixedOrders = true := by kernel_rfl

noncomputable def glob : Nat → Option AV
  | 0 => some (.agg [1, 1, 1, 1, 1, 1, 1, 1, 1] [(.fn 194 []), (.fn 195 []), (.fn 196 []), (.fn 197 []), (.fn 198 []), (.fn 199 []), (.fn 200 []), (.fn 201 []), (.fn 202 [])])
  | 3 => some (.arr 8 (.int .u8) [3, 4, 5, 6, 7, 8, 9, 10])
  | _ => none

def sched : FuncId → Nat → Option Sch
  | 92, 15 => some (.one 0 (.one 1 (.one 2 (.one 6 (.two 3 7 (.one 4 (.one 5 (.one 7 (.one 8 (.one 9 .fin))))) (.one 3 (.one 4 (.one 5 (.one 8 (.one 9 .fin))))))))))
  | 25, 14 => some (.one 0 (.one 1 (.one 2 (.one 3 (.one 4 (.one 5 (.one 6 (.one 7 (.one 8 (.one 9 (.one 10 (.one 11 (.two 12 13 (.one 13 (.one 14 (.one 15 (.one 16 (.one 17 .fin))))) (.one 12 (.one 14 (.one 15 (.one 16 (.one 17 .fin))))))))))))))))))
  | 11, 10 => some (.one 0 (.one 1 (.two 2 4 (.two 3 4 (.one 4 (.one 5 (.one 6 (.one 7 .fin)))) (.one 3 (.one 5 (.one 6 (.one 7 .fin))))) (.one 2 (.one 3 (.one 5 (.one 6 (.one 7 .fin))))))))
  | 12, 8 => some (.one 0 (.one 1 (.one 2 (.one 3 (.one 4 (.one 5 (.one 6 (.one 7 (.one 8 (.one 9 (.two 10 12 (.two 11 12 (.one 12 (.one 13 (.one 14 (.one 15 .fin)))) (.one 11 (.one 13 (.one 14 (.one 15 .fin))))) (.one 10 (.one 11 (.one 13 (.one 14 (.one 15 .fin))))))))))))))))
  | _, _ => none
def split : FuncId → Nat → Option (Nat × List Step × Nat)
  | 27, 19 => some (5, [.fld 8 8], 9)
  | _, _ => none
def exact : FuncId → Bool
  | 169 => true
  | 171 => true
  | 175 => true
  | _ => false
def apart : FuncId → Bool
  | 173 => true
  | _ => false
theorem apart_ok : ∀ f, apart f = true → ApartOk Tryd.prog f := by
  intro f h
  unfold apart at h
  split at h
  · exact apart_of (fn := Tryd.f173) (tS := 48) (tR := 4) (e := 51) Tryd.func173 (by kernel_rfl) rfl (by kernel_rfl) (by kernel_rfl) Tryd.underlying48 (ty_ok 51 _ rfl)
  · cases h
noncomputable def env (sp : FuncId → Option Spec) (mk : FuncId → Nat → Option (List Nat)) : Env := { P := Tryd.prog, ty := ty, fns := fns, glob := glob, spec := sp, mask := mk, exact := exact, apart := apart, split := split, sched := sched }
noncomputable abbrev env0 : Env := env (fun _ => none) (fun _ _ => none)
theorem valid (sp : FuncId → Option Spec) (mk : FuncId → Nat → Option (List Nat)) : (env sp mk).Valid := ⟨ty_ok, fns_ok, mixed, apart_ok⟩
end Go.Eng.RD
end
section
/- The variables that decode's laws lay. -/
namespace Go.Eng.RD
open Go.Proofs Go.Eng Go.RowKit

/-- A table of functions by name, cell by cell. -/
theorem cells_of_funcs {P : Program} {w : World} {fuel : Nat} {t e : TypeId} {n : Nat} {ps rs : Array TypeId} {va : Bool} {cs : List Value} {p : List MemPlace} {bs : List (UInt8 × List UInt8)} {fs : List FuncId}
    (ht : P.underlying t = some (.array n e)) (he : P.underlying e = some (.func ps rs va)) (hce : P.cellsOf e = 1) (hct : P.cellsOf t = n) (hn : fs.length = n)
    (hone : ∀ (i : Nat) (b : UInt8) r f, bs[i]? = some (b, r) → fs[i]? = some f → ((List.range P.funcs.size).filter fun f => (P.funcs[f]?).any (·.name.toUTF8.data.toList == b :: r)) = [f])
    (h : DataW.trod (funcToken P) P w 0 (fun _ => true) true fuel t cs = some (.agg (bs.map fun x => .held (x.1 :: x.2)), p)) : cs = fs.map fun f => Value.func (.func f) #[] #[] := by
  obtain ⟨xs, m, _, hx, hl, hxl, hel⟩ := DataW.trod_array ht h
  obtain ⟨hx, _⟩ := Prod.mk.inj hx
  have hx : bs.map (fun x => (DataW.held (x.1 :: x.2) : DataW (List UInt8))) = xs.map (·.1) := by simpa using hx
  have hbl : bs.length = n := by
    have := congrArg List.length hx
    simp at this; omega
  apply List.ext_getElem?
  intro i
  by_cases hi : i < n
  · have h1 := hel i hi
    rw [hce, Nat.mul_one] at h1
    obtain ⟨y, hy⟩ : ∃ y, xs[i]? = some y := ⟨_, List.getElem?_eq_getElem (by omega)⟩
    obtain ⟨b, hb⟩ : ∃ b, bs[i]? = some b := ⟨_, List.getElem?_eq_getElem (by omega)⟩
    obtain ⟨f, hf⟩ : ∃ f, fs[i]? = some f := ⟨_, List.getElem?_eq_getElem (by omega)⟩
    have h2 : y.1 = .held (b.1 :: b.2) := by
      have := congrArg (·[i]?) hx
      simp only [List.getElem?_map, hb, hy, Option.map_some, Option.some.injEq] at this
      exact this.symm
    rw [hy] at h1
    have hci : i < cs.length := by omega
    have h3 : (cs.drop i).take 1 = [cs[i]] := by
      rw [List.drop_eq_getElem_cons hci]; rfl
    rw [h3] at h1
    have h4 : DataW.trod (funcToken P) P w 0 (fun _ => true) true m e [cs[i]] = some (.held (b.1 :: b.2), y.2) := by rw [h1, ← h2]
    have := func_of_trod he (hone i b.1 b.2 f hb hf) h4
    rw [List.getElem?_map, hf, List.getElem?_eq_getElem hci, this]
    rfl
  · rw [List.getElem?_eq_none (by omega), List.getElem?_eq_none (by simp; omega)]

def deeds : List Int := [3, 4, 5, 6, 7, 8, 9, 10]
def standFs : List FuncId := [194, 195, 196, 197, 198, 199, 200, 201, 202]
def standN (c : UInt8) : UInt8 × List UInt8 := (115, [117, 110, 100, 105, 97, 108, 47, 100, 101, 99, 111, 100, 101, 46, 115, 116, 97, 110, 100, 115, 36, c])
def standBs : List (UInt8 × List UInt8) := [standN 49, standN 50, standN 51, standN 52, standN 53, standN 54, standN 55, standN 56, standN 57]

theorem stand_all : (standBs.zip standFs).all (fun x => ((List.range Tryd.prog.funcs.size).filter fun f => (Tryd.prog.funcs[f]?).any (·.name.toUTF8.data.toList == x.1.1 :: x.1.2)) == [x.2]) = true := by kernel_rfl
theorem stand_one : ∀ (i : Nat) (b : UInt8) r f, standBs[i]? = some (b, r) → standFs[i]? = some f → ((List.range Tryd.prog.funcs.size).filter fun f => (Tryd.prog.funcs[f]?).any (·.name.toUTF8.data.toList == b :: r)) = [f] := by
  intro i b r f hb hf
  have hz : (standBs.zip standFs)[i]? = some ((b, r), f) := by
    rw [List.getElem?_zip_eq_some]; exact ⟨hb, hf⟩
  have := List.all_eq_true.1 stand_all _ (List.mem_of_getElem? hz)
  simpa using this

theorem laid_all {W : World} (h : Lib.TabIs Tryd.prog W "sundial/codes.deeds" .u8 deeds) (h' : funcsAt Tryd.prog W "sundial/decode.stands" (.agg (standBs.map fun x => .iface "func" (.lit (.string (x.1 :: x.2)))))) :
    GlobRep env0 ⟨W, protAll W, []⟩ := by
  have hg : Tryd.prog.globalNamed "sundial/codes.deeds" = some 3 := by kernel_rfl
  have hg0 : Tryd.prog.globalNamed "sundial/decode.stands" = some 0 := by kernel_rfl
  have ht0 : (Tryd.prog.globals[0]?).map (·.type) = some 96 := by kernel_rfl
  obtain ⟨g, t, cs, fuel, p, h1, h2, h3, h4⟩ := h'
  obtain rfl := Option.some.inj (hg0.symm.trans h1)
  obtain rfl := Option.some.inj (ht0.symm.trans h2)
  have h4 : DataW.trod (funcToken Tryd.prog) Tryd.prog W 0 (fun _ => true) true fuel 96 cs.toList = some (.agg (standBs.map fun x => .held (x.1 :: x.2)), p) := h4
  have hcs := cells_of_funcs (fs := standFs) Tryd.underlying96 Tryd.underlying95 (by kernel_rfl) (by kernel_rfl) rfl stand_one h4
  unfold Lib.TabIs World.var? at h
  unfold World.var? at h3
  rw [hg] at h
  rw [hg0] at h3
  simp only [Option.bind_some] at h h3
  intro g v e
  have e : glob g = some v := e
  unfold glob at e
  split at e
  · cases e
    split at h3
    · rename_i cs' t fz hh
      simp only [Option.some.injEq] at h3
      subst h3
      refine ⟨cs', t, fz, standFs.map fun f => Value.func (.func f) #[] #[], hh, fun ι' => ground_ok ι' _ _ (by kernel_rfl), ?_⟩
      intro j v hj
      rw [← hcs] at hj
      simpa using hj
    · cases h3
  · cases e
    split at h
    · rename_i cs' t fz hh
      simp only [Option.some.injEq] at h
      subst h
      refine ⟨(deeds.map fun z => Value.int .u8 z).toArray, t, fz, deeds.map fun z => Value.int .u8 z, hh, fun ι' => ground_ok ι' _ _ (by kernel_rfl), ?_⟩
      intro j v hj
      simpa using hj
    · cases h
  · cases e
end Go.Eng.RD
end
section
/- Readers of bytes: what they take hangs on nothing behind it. -/
namespace Go.Eng.RD
open Go.Eng

abbrev Pz (α : Type) := List Int → Option (α × List Int)

/-- What is read hangs on its own bytes alone; with fewer nothing is. -/
def Stable {α : Type} (p : Pz α) : Prop := ∀ b a r, p b = some (a, r) → ∃ u, b = u ++ r ∧ (∀ o, p (u ++ o) = some (a, o)) ∧ ∀ m, m < u.length → p (u.take m) = none

/-- At least, at most so many bytes. -/
def Takes {α : Type} (p : Pz α) (lo hi : Nat) : Prop := ∀ b a r, p b = some (a, r) → r.length + lo ≤ b.length ∧ b.length ≤ r.length + hi

def retP {α : Type} (a : α) : Pz α := fun b => some (a, b)
def failP {α : Type} : Pz α := fun _ => none
def byteP {α : Type} (q : Int → Pz α) : Pz α := fun b => match b with | [] => none | c :: r => q c r
def bytesP {α : Type} (n : Nat) (q : List Int → Pz α) : Pz α := fun b => if n ≤ b.length then q (b.take n) (b.drop n) else none
def bindP {α β : Type} (p : Pz α) (q : α → Pz β) : Pz β := fun b => match p b with | some (a, r) => q a r | none => none

section
variable {α β : Type}

theorem stable_ret (a : α) : Stable (retP a) := by
  intro b a' r h
  simp only [retP, Option.some.injEq, Prod.mk.injEq] at h
  obtain ⟨rfl, rfl⟩ := h
  exact ⟨[], rfl, fun _ => rfl, fun m hm => by simp at hm⟩
theorem stable_fail : Stable (failP : Pz α) := fun _ _ _ h => by cases h
theorem stable_byte {q : Int → Pz α} (h : ∀ c, Stable (q c)) : Stable (byteP q) := by
  intro b a r hb
  cases b with
  | nil => cases hb
  | cons c b =>
    obtain ⟨u, rfl, h1, h2⟩ := h c b a r hb
    refine ⟨c :: u, rfl, fun o => h1 o, fun m hm => ?_⟩
    cases m with
    | zero => rfl
    | succ m => exact h2 m (by simpa using hm)
theorem stable_bytes {n : Nat} {q : List Int → Pz α} (h : ∀ d, Stable (q d)) : Stable (bytesP n q) := by
  intro b a r hb
  unfold bytesP at hb
  split at hb
  · rename_i hn
    obtain ⟨u, hu, h1, h2⟩ := h _ _ a r hb
    have hl : (b.take n).length = n := by simp; omega
    refine ⟨b.take n ++ u, ?_, fun o => ?_, fun m hm => ?_⟩
    · rw [List.append_assoc, ← hu, List.take_append_drop]
    · unfold bytesP
      rw [if_pos (by simp; omega), List.append_assoc, List.take_append_of_le_length (by omega), List.take_of_length_le (by omega), List.drop_append_of_le_length (by omega), List.drop_of_length_le (by omega)]
      exact h1 o
    · unfold bytesP
      split
      · rename_i hk
        have hm' : n ≤ m := by rw [List.length_take] at hk; omega
        obtain ⟨k, rfl⟩ := Nat.exists_eq_add_of_le hm'
        have e : (b.take n ++ u).take (n + k) = b.take n ++ u.take k := by
          rw [List.take_append, hl, Nat.add_sub_cancel_left, List.take_of_length_le (by omega)]
        rw [e, List.take_append_of_le_length (by omega), List.take_of_length_le (by omega), List.drop_append_of_le_length (by omega), List.drop_of_length_le (by omega)]
        rw [List.length_append, hl] at hm
        exact h2 k (by omega)
      · rfl
  · cases hb
theorem stable_bind {p : Pz α} {q : α → Pz β} (hp : Stable p) (hq : ∀ a, Stable (q a)) : Stable (bindP p q) := by
  intro b c r hb
  unfold bindP at hb
  split at hb
  · rename_i a r1 e
    obtain ⟨u, rfl, h1, h2⟩ := hp _ _ _ e
    obtain ⟨v, rfl, k1, k2⟩ := hq a _ _ _ hb
    refine ⟨u ++ v, by rw [List.append_assoc], fun o => ?_, fun m hm => ?_⟩
    · unfold bindP; rw [List.append_assoc, h1]; exact k1 o
    · unfold bindP
      by_cases hmu : m < u.length
      · rw [List.take_append_of_le_length (by omega), h2 m hmu]
      · obtain ⟨k, rfl⟩ := Nat.exists_eq_add_of_le (Nat.le_of_not_lt hmu)
        rw [List.take_append, Nat.add_sub_cancel_left, List.take_of_length_le (by omega), h1]
        rw [List.length_append] at hm
        exact k2 k (by omega)
  · cases hb
theorem stable_ite {c : Bool} {p q : Pz α} (hp : c = true → Stable p) (hq : c = false → Stable q) : Stable (fun b => cond c (p b) (q b)) := by
  cases c
  · exact hq rfl
  · exact hp rfl

theorem takes_ret (a : α) : Takes (retP a) 0 0 := by
  intro b a' r h
  simp only [retP, Option.some.injEq, Prod.mk.injEq] at h
  obtain ⟨_, rfl⟩ := h
  omega
theorem takes_fail {lo hi : Nat} : Takes (failP : Pz α) lo hi := fun _ _ _ h => by cases h
theorem Takes.mono {p : Pz α} {lo hi lo' hi' : Nat} (h : Takes p lo hi) (h1 : lo' ≤ lo) (h2 : hi ≤ hi') : Takes p lo' hi' := fun b a r e => by
  have := h b a r e; omega
theorem takes_byte {q : Int → Pz α} {lo hi : Nat} (h : ∀ c, Takes (q c) lo hi) : Takes (byteP q) (lo + 1) (hi + 1) := by
  intro b a r hb
  cases b with
  | nil => cases hb
  | cons c b => have := h c b a r hb; simp only [List.length_cons]; omega
theorem takes_bytes {n : Nat} {q : List Int → Pz α} {lo hi : Nat} (h : ∀ d, Takes (q d) lo hi) : Takes (bytesP n q) (n + lo) (n + hi) := by
  intro b a r hb
  unfold bytesP at hb
  split at hb
  · have := h _ _ a r hb; simp only [List.length_drop] at this; omega
  · cases hb
theorem takes_bind {p : Pz α} {q : α → Pz β} {lo hi lo' hi' : Nat} (hp : Takes p lo hi) (hq : ∀ a, Takes (q a) lo' hi') : Takes (bindP p q) (lo + lo') (hi + hi') := by
  intro b c r hb
  unfold bindP at hb
  split at hb
  · rename_i a r1 e
    have := hp _ _ _ e; have := hq a _ _ _ hb; omega
  · cases hb
theorem takes_ite {c : Bool} {p q : Pz α} {lo hi : Nat} (hp : c = true → Takes p lo hi) (hq : c = false → Takes q lo hi) : Takes (fun b => cond c (p b) (q b)) lo hi := by
  cases c
  · exact hq rfl
  · exact hp rfl
theorem Stable.nil {p : Pz α} {lo hi : Nat} (h : Takes p lo hi) (hlo : 0 < lo) : p [] = none := by
  cases e : p [] with
  | none => rfl
  | some x => have := h [] x.1 x.2 e; simp at this; omega
end
end Go.Eng.RD
end
section
/- Functions of this program, written out. -/
namespace Go.Eng.RD
open Go.Proofs Go.Eng
set_option maxRecDepth 100000

/-! ### sundial/decode.stands$1 -/
noncomputable def tree194 (_x : (DOperand × (DOperand × (DOperand × DOperand)))) : Tr (DOperand × DOperand) :=
  let y0 : (Int × (Int × (Int × (Int × (Int × (Int × (Bool × Int))))))) := (0, (0, (0, (0, (0, (0, (false, 0)))))))
  .ret (y0, y0)
noncomputable def fn194 (x : (DOperand × (DOperand × (DOperand × DOperand)))) : (DOperand × DOperand) := (tree194 x).val
def pre194 (x : (DOperand × (DOperand × (DOperand × DOperand)))) : Prop := (tree194 x).ok
noncomputable def spec194 : Spec := { dom := (.st COperand (.st COperand (.st COperand (.st1 COperand)))), cod := (.st COperand (.st1 COperand)), n := 2, pre := pre194, f := fn194 }
noncomputable def need194 : FuncId → Option Spec
  | _ => none
theorem need194_ok : ∀ f sp, need194 f = some sp → SpecOk env0 f sp := by
  intro f sp h
  unfold need194 at h
  split at h
  · cases h
theorem run194 (W : Cfg) (Q : (DOperand × DOperand) → Prop) (x : (DOperand × (DOperand × (DOperand × DOperand)))) : run (env need194 (fun _ _ => none)) (fun _ _ _ => none) (finS spec194 Q) W 100000 (startFr 194 Tryd.f194 (bodyOf Tryd.f194) (argsOf (.st COperand (.st COperand (.st COperand (.st1 COperand)))) x)) [] [] = (tree194 x).wp Q := by kernel_rfl
theorem ok194 : SpecOk env0 194 spec194 := SpecOk.env rfl (fun _ _ h => h) (spec_of_tree (E := (env need194 (fun _ _ => none))) (sp := spec194) (valid _ _) (fun f sp h => SpecOk.env rfl (fun _ _ h => h) (need194_ok f sp h)) (fn := Tryd.f194) (c := (bodyOf Tryd.f194)) (by kernel_rfl) (by kernel_rfl) tree194 run194 (fun _ h => Tr.gives_val h))

/-! ### sundial/decode.stands$2 -/
noncomputable def tree195 (x : (DOperand × (DOperand × (DOperand × DOperand)))) : Tr (DOperand × DOperand) :=
  .ret (x.2.1, x.1)
noncomputable def fn195 (x : (DOperand × (DOperand × (DOperand × DOperand)))) : (DOperand × DOperand) := (tree195 x).val
def pre195 (x : (DOperand × (DOperand × (DOperand × DOperand)))) : Prop := (tree195 x).ok
noncomputable def spec195 : Spec := { dom := (.st COperand (.st COperand (.st COperand (.st1 COperand)))), cod := (.st COperand (.st1 COperand)), n := 2, pre := pre195, f := fn195 }
noncomputable def need195 : FuncId → Option Spec
  | _ => none
theorem need195_ok : ∀ f sp, need195 f = some sp → SpecOk env0 f sp := by
  intro f sp h
  unfold need195 at h
  split at h
  · cases h
theorem run195 (W : Cfg) (Q : (DOperand × DOperand) → Prop) (x : (DOperand × (DOperand × (DOperand × DOperand)))) : run (env need195 (fun _ _ => none)) (fun _ _ _ => none) (finS spec195 Q) W 100000 (startFr 195 Tryd.f195 (bodyOf Tryd.f195) (argsOf (.st COperand (.st COperand (.st COperand (.st1 COperand)))) x)) [] [] = (tree195 x).wp Q := by kernel_rfl
theorem ok195 : SpecOk env0 195 spec195 := SpecOk.env rfl (fun _ _ h => h) (spec_of_tree (E := (env need195 (fun _ _ => none))) (sp := spec195) (valid _ _) (fun f sp h => SpecOk.env rfl (fun _ _ h => h) (need195_ok f sp h)) (fn := Tryd.f195) (c := (bodyOf Tryd.f195)) (by kernel_rfl) (by kernel_rfl) tree195 run195 (fun _ h => Tr.gives_val h))

/-! ### sundial/decode.stands$3 -/
noncomputable def tree196 (x : (DOperand × (DOperand × (DOperand × DOperand)))) : Tr (DOperand × DOperand) :=
  .ret (x.1, x.2.1)
noncomputable def fn196 (x : (DOperand × (DOperand × (DOperand × DOperand)))) : (DOperand × DOperand) := (tree196 x).val
def pre196 (x : (DOperand × (DOperand × (DOperand × DOperand)))) : Prop := (tree196 x).ok
noncomputable def spec196 : Spec := { dom := (.st COperand (.st COperand (.st COperand (.st1 COperand)))), cod := (.st COperand (.st1 COperand)), n := 2, pre := pre196, f := fn196 }
noncomputable def need196 : FuncId → Option Spec
  | _ => none
theorem need196_ok : ∀ f sp, need196 f = some sp → SpecOk env0 f sp := by
  intro f sp h
  unfold need196 at h
  split at h
  · cases h
theorem run196 (W : Cfg) (Q : (DOperand × DOperand) → Prop) (x : (DOperand × (DOperand × (DOperand × DOperand)))) : run (env need196 (fun _ _ => none)) (fun _ _ _ => none) (finS spec196 Q) W 100000 (startFr 196 Tryd.f196 (bodyOf Tryd.f196) (argsOf (.st COperand (.st COperand (.st COperand (.st1 COperand)))) x)) [] [] = (tree196 x).wp Q := by kernel_rfl
theorem ok196 : SpecOk env0 196 spec196 := SpecOk.env rfl (fun _ _ h => h) (spec_of_tree (E := (env need196 (fun _ _ => none))) (sp := spec196) (valid _ _) (fun f sp h => SpecOk.env rfl (fun _ _ h => h) (need196_ok f sp h)) (fn := Tryd.f196) (c := (bodyOf Tryd.f196)) (by kernel_rfl) (by kernel_rfl) tree196 run196 (fun _ h => Tr.gives_val h))

/-! ### sundial/decode.stands$4 -/
noncomputable def tree197 (x : (DOperand × (DOperand × (DOperand × DOperand)))) : Tr (DOperand × DOperand) :=
  .ret (x.2.1, (0, (0, (0, (0, (0, (0, (false, 0))))))))
noncomputable def fn197 (x : (DOperand × (DOperand × (DOperand × DOperand)))) : (DOperand × DOperand) := (tree197 x).val
def pre197 (x : (DOperand × (DOperand × (DOperand × DOperand)))) : Prop := (tree197 x).ok
noncomputable def spec197 : Spec := { dom := (.st COperand (.st COperand (.st COperand (.st1 COperand)))), cod := (.st COperand (.st1 COperand)), n := 2, pre := pre197, f := fn197 }
noncomputable def need197 : FuncId → Option Spec
  | _ => none
theorem need197_ok : ∀ f sp, need197 f = some sp → SpecOk env0 f sp := by
  intro f sp h
  unfold need197 at h
  split at h
  · cases h
theorem run197 (W : Cfg) (Q : (DOperand × DOperand) → Prop) (x : (DOperand × (DOperand × (DOperand × DOperand)))) : run (env need197 (fun _ _ => none)) (fun _ _ _ => none) (finS spec197 Q) W 100000 (startFr 197 Tryd.f197 (bodyOf Tryd.f197) (argsOf (.st COperand (.st COperand (.st COperand (.st1 COperand)))) x)) [] [] = (tree197 x).wp Q := by kernel_rfl
theorem ok197 : SpecOk env0 197 spec197 := SpecOk.env rfl (fun _ _ h => h) (spec_of_tree (E := (env need197 (fun _ _ => none))) (sp := spec197) (valid _ _) (fun f sp h => SpecOk.env rfl (fun _ _ h => h) (need197_ok f sp h)) (fn := Tryd.f197) (c := (bodyOf Tryd.f197)) (by kernel_rfl) (by kernel_rfl) tree197 run197 (fun _ h => Tr.gives_val h))

/-! ### sundial/decode.stands$5 -/
noncomputable def tree198 (x : (DOperand × (DOperand × (DOperand × DOperand)))) : Tr (DOperand × DOperand) :=
  .ret (x.2.1, x.2.2.2)
noncomputable def fn198 (x : (DOperand × (DOperand × (DOperand × DOperand)))) : (DOperand × DOperand) := (tree198 x).val
def pre198 (x : (DOperand × (DOperand × (DOperand × DOperand)))) : Prop := (tree198 x).ok
noncomputable def spec198 : Spec := { dom := (.st COperand (.st COperand (.st COperand (.st1 COperand)))), cod := (.st COperand (.st1 COperand)), n := 2, pre := pre198, f := fn198 }
noncomputable def need198 : FuncId → Option Spec
  | _ => none
theorem need198_ok : ∀ f sp, need198 f = some sp → SpecOk env0 f sp := by
  intro f sp h
  unfold need198 at h
  split at h
  · cases h
theorem run198 (W : Cfg) (Q : (DOperand × DOperand) → Prop) (x : (DOperand × (DOperand × (DOperand × DOperand)))) : run (env need198 (fun _ _ => none)) (fun _ _ _ => none) (finS spec198 Q) W 100000 (startFr 198 Tryd.f198 (bodyOf Tryd.f198) (argsOf (.st COperand (.st COperand (.st COperand (.st1 COperand)))) x)) [] [] = (tree198 x).wp Q := by kernel_rfl
theorem ok198 : SpecOk env0 198 spec198 := SpecOk.env rfl (fun _ _ h => h) (spec_of_tree (E := (env need198 (fun _ _ => none))) (sp := spec198) (valid _ _) (fun f sp h => SpecOk.env rfl (fun _ _ h => h) (need198_ok f sp h)) (fn := Tryd.f198) (c := (bodyOf Tryd.f198)) (by kernel_rfl) (by kernel_rfl) tree198 run198 (fun _ h => Tr.gives_val h))

/-! ### sundial/operand.Reg -/
noncomputable def tree60 (x : Int) : Tr DOperand :=
  .ret (1, (x, ((-1), ((-1), (0, (0, (false, 0)))))))
noncomputable def fn60 (x : Int) : DOperand := (tree60 x).val
def pre60 (x : Int) : Prop := (tree60 x).ok
noncomputable def spec60 : Spec := { dom := (.st1 (.int .i64)), cod := COperand, n := 1, pre := pre60, f := fn60 }
noncomputable def need60 : FuncId → Option Spec
  | _ => none
theorem need60_ok : ∀ f sp, need60 f = some sp → SpecOk env0 f sp := by
  intro f sp h
  unfold need60 at h
  split at h
  · cases h
theorem run60 (W : Cfg) (Q : DOperand → Prop) (x : Int) : run (env need60 (fun _ _ => none)) (fun _ _ _ => none) (finS spec60 Q) W 100000 (startFr 60 Tryd.f60 (bodyOf Tryd.f60) (argsOf (.st1 (.int .i64)) x)) [] [] = (tree60 x).wp Q := by kernel_rfl
theorem ok60 : SpecOk env0 60 spec60 := SpecOk.env rfl (fun _ _ h => h) (spec_of_tree (E := (env need60 (fun _ _ => none))) (sp := spec60) (valid _ _) (fun f sp h => SpecOk.env rfl (fun _ _ h => h) (need60_ok f sp h)) (fn := Tryd.f60) (c := (bodyOf Tryd.f60)) (by kernel_rfl) (by kernel_rfl) tree60 run60 (fun _ h => Tr.gives_val h))

/-! ### sundial/decode.stands$6 -/
noncomputable def tree199 (x : (DOperand × (DOperand × (DOperand × DOperand)))) : Tr (DOperand × DOperand) :=
  .need (pre60 1) <|
  .ret (x.2.1, (fn60 1))
noncomputable def fn199 (x : (DOperand × (DOperand × (DOperand × DOperand)))) : (DOperand × DOperand) := (tree199 x).val
def pre199 (x : (DOperand × (DOperand × (DOperand × DOperand)))) : Prop := (tree199 x).ok
noncomputable def spec199 : Spec := { dom := (.st COperand (.st COperand (.st COperand (.st1 COperand)))), cod := (.st COperand (.st1 COperand)), n := 2, pre := pre199, f := fn199 }
noncomputable def need199 : FuncId → Option Spec
  | 60 => some spec60
  | _ => none
theorem need199_ok : ∀ f sp, need199 f = some sp → SpecOk env0 f sp := by
  intro f sp h
  unfold need199 at h
  split at h
  · cases h; exact ok60
  · cases h
theorem run199 (W : Cfg) (Q : (DOperand × DOperand) → Prop) (x : (DOperand × (DOperand × (DOperand × DOperand)))) : run (env need199 (fun _ _ => none)) (fun _ _ _ => none) (finS spec199 Q) W 100000 (startFr 199 Tryd.f199 (bodyOf Tryd.f199) (argsOf (.st COperand (.st COperand (.st COperand (.st1 COperand)))) x)) [] [] = (tree199 x).wp Q := by kernel_rfl
theorem ok199 : SpecOk env0 199 spec199 := SpecOk.env rfl (fun _ _ h => h) (spec_of_tree (E := (env need199 (fun _ _ => none))) (sp := spec199) (valid _ _) (fun f sp h => SpecOk.env rfl (fun _ _ h => h) (need199_ok f sp h)) (fn := Tryd.f199) (c := (bodyOf Tryd.f199)) (by kernel_rfl) (by kernel_rfl) tree199 run199 (fun _ h => Tr.gives_val h))

/-! ### sundial/decode.stands$7 -/
noncomputable def tree200 (x : (DOperand × (DOperand × (DOperand × DOperand)))) : Tr (DOperand × DOperand) :=
  .ret (x.2.2.1, (0, (0, (0, (0, (0, (0, (false, 0))))))))
noncomputable def fn200 (x : (DOperand × (DOperand × (DOperand × DOperand)))) : (DOperand × DOperand) := (tree200 x).val
def pre200 (x : (DOperand × (DOperand × (DOperand × DOperand)))) : Prop := (tree200 x).ok
noncomputable def spec200 : Spec := { dom := (.st COperand (.st COperand (.st COperand (.st1 COperand)))), cod := (.st COperand (.st1 COperand)), n := 2, pre := pre200, f := fn200 }
noncomputable def need200 : FuncId → Option Spec
  | _ => none
theorem need200_ok : ∀ f sp, need200 f = some sp → SpecOk env0 f sp := by
  intro f sp h
  unfold need200 at h
  split at h
  · cases h
theorem run200 (W : Cfg) (Q : (DOperand × DOperand) → Prop) (x : (DOperand × (DOperand × (DOperand × DOperand)))) : run (env need200 (fun _ _ => none)) (fun _ _ _ => none) (finS spec200 Q) W 100000 (startFr 200 Tryd.f200 (bodyOf Tryd.f200) (argsOf (.st COperand (.st COperand (.st COperand (.st1 COperand)))) x)) [] [] = (tree200 x).wp Q := by kernel_rfl
theorem ok200 : SpecOk env0 200 spec200 := SpecOk.env rfl (fun _ _ h => h) (spec_of_tree (E := (env need200 (fun _ _ => none))) (sp := spec200) (valid _ _) (fun f sp h => SpecOk.env rfl (fun _ _ h => h) (need200_ok f sp h)) (fn := Tryd.f200) (c := (bodyOf Tryd.f200)) (by kernel_rfl) (by kernel_rfl) tree200 run200 (fun _ h => Tr.gives_val h))

/-! ### sundial/decode.stands$8 -/
noncomputable def tree201 (x : (DOperand × (DOperand × (DOperand × DOperand)))) : Tr (DOperand × DOperand) :=
  .ret x.2.2
noncomputable def fn201 (x : (DOperand × (DOperand × (DOperand × DOperand)))) : (DOperand × DOperand) := (tree201 x).val
def pre201 (x : (DOperand × (DOperand × (DOperand × DOperand)))) : Prop := (tree201 x).ok
noncomputable def spec201 : Spec := { dom := (.st COperand (.st COperand (.st COperand (.st1 COperand)))), cod := (.st COperand (.st1 COperand)), n := 2, pre := pre201, f := fn201 }
noncomputable def need201 : FuncId → Option Spec
  | _ => none
theorem need201_ok : ∀ f sp, need201 f = some sp → SpecOk env0 f sp := by
  intro f sp h
  unfold need201 at h
  split at h
  · cases h
theorem run201 (W : Cfg) (Q : (DOperand × DOperand) → Prop) (x : (DOperand × (DOperand × (DOperand × DOperand)))) : run (env need201 (fun _ _ => none)) (fun _ _ _ => none) (finS spec201 Q) W 100000 (startFr 201 Tryd.f201 (bodyOf Tryd.f201) (argsOf (.st COperand (.st COperand (.st COperand (.st1 COperand)))) x)) [] [] = (tree201 x).wp Q := by kernel_rfl
theorem ok201 : SpecOk env0 201 spec201 := SpecOk.env rfl (fun _ _ h => h) (spec_of_tree (E := (env need201 (fun _ _ => none))) (sp := spec201) (valid _ _) (fun f sp h => SpecOk.env rfl (fun _ _ h => h) (need201_ok f sp h)) (fn := Tryd.f201) (c := (bodyOf Tryd.f201)) (by kernel_rfl) (by kernel_rfl) tree201 run201 (fun _ h => Tr.gives_val h))

/-! ### sundial/decode.stands$9 -/
noncomputable def tree202 (x : (DOperand × (DOperand × (DOperand × DOperand)))) : Tr (DOperand × DOperand) :=
  .ret ((0, (0, (0, (0, (0, (0, (false, 0))))))), x.2.2.2)
noncomputable def fn202 (x : (DOperand × (DOperand × (DOperand × DOperand)))) : (DOperand × DOperand) := (tree202 x).val
def pre202 (x : (DOperand × (DOperand × (DOperand × DOperand)))) : Prop := (tree202 x).ok
noncomputable def spec202 : Spec := { dom := (.st COperand (.st COperand (.st COperand (.st1 COperand)))), cod := (.st COperand (.st1 COperand)), n := 2, pre := pre202, f := fn202 }
noncomputable def need202 : FuncId → Option Spec
  | _ => none
theorem need202_ok : ∀ f sp, need202 f = some sp → SpecOk env0 f sp := by
  intro f sp h
  unfold need202 at h
  split at h
  · cases h
theorem run202 (W : Cfg) (Q : (DOperand × DOperand) → Prop) (x : (DOperand × (DOperand × (DOperand × DOperand)))) : run (env need202 (fun _ _ => none)) (fun _ _ _ => none) (finS spec202 Q) W 100000 (startFr 202 Tryd.f202 (bodyOf Tryd.f202) (argsOf (.st COperand (.st COperand (.st COperand (.st1 COperand)))) x)) [] [] = (tree202 x).wp Q := by kernel_rfl
theorem ok202 : SpecOk env0 202 spec202 := SpecOk.env rfl (fun _ _ h => h) (spec_of_tree (E := (env need202 (fun _ _ => none))) (sp := spec202) (valid _ _) (fun f sp h => SpecOk.env rfl (fun _ _ h => h) (need202_ok f sp h)) (fn := Tryd.f202) (c := (bodyOf Tryd.f202)) (by kernel_rfl) (by kernel_rfl) tree202 run202 (fun _ h => Tr.gives_val h))

/-! ### sundial/sundialref08.Reg -/
noncomputable def tree35 (x : Int) : Tr DOperand :=
  .ret (1, (x, ((-1), ((-1), (0, (0, (false, 0)))))))
noncomputable def fn35 (x : Int) : DOperand := (tree35 x).val
def pre35 (x : Int) : Prop := (tree35 x).ok
noncomputable def spec35 : Spec := { dom := (.st1 (.int .i64)), cod := COperand, n := 1, pre := pre35, f := fn35 }
noncomputable def need35 : FuncId → Option Spec
  | _ => none
theorem need35_ok : ∀ f sp, need35 f = some sp → SpecOk env0 f sp := by
  intro f sp h
  unfold need35 at h
  split at h
  · cases h
theorem run35 (W : Cfg) (Q : DOperand → Prop) (x : Int) : run (env need35 (fun _ _ => none)) (fun _ _ _ => none) (finS spec35 Q) W 100000 (startFr 35 Tryd.f35 (bodyOf Tryd.f35) (argsOf (.st1 (.int .i64)) x)) [] [] = (tree35 x).wp Q := by kernel_rfl
theorem ok35 : SpecOk env0 35 spec35 := SpecOk.env rfl (fun _ _ h => h) (spec_of_tree (E := (env need35 (fun _ _ => none))) (sp := spec35) (valid _ _) (fun f sp h => SpecOk.env rfl (fun _ _ h => h) (need35_ok f sp h)) (fn := Tryd.f35) (c := (bodyOf Tryd.f35)) (by kernel_rfl) (by kernel_rfl) tree35 run35 (fun _ h => Tr.gives_val h))

/-! ### sundial/sundialref09.ahead -/
inductive J47 where
  | h0 (v7 : Int) (v12 : Int)
  | h1 (v7 : Int) (v8 : Bool) (v9 : Int) (v12 : Int)
  | h2 (v7 : Int) (v8 : Bool) (v9 : Int) (v10 : Int) (v12 : Int)
  | h3 (v7 : Int) (v8 : Bool) (v9 : Int) (v10 : Int) (v12 : Int)
noncomputable def tree47 (x : (List Int)) : Tr (J47 ⊕ (Dhead × Bool)) :=
  .ite ((ilt 0 (x.length : Int)) == true) (
    .need ((0 : Int) ≤ 0) <|
    .need (0 < (x.length : Int)) <|
    let y0 : Int := (rdc (.int .u8) x 0)
    .ite ((ieq y0 102) == false) (
      .need ((0 : Int) ≤ 0) <|
      .need (0 < (x.length : Int)) <|
      .ite (ieq y0 243) (
        .need ((0 : Int) ≤ 0) <|
        .need (0 < (x.length : Int)) <|
        .ret (.inl (.h0 y0 1))) (
        .ret (.inl (.h0 0 0)))) (
      .need ((0 : Int) ≤ 0) <|
      .need (0 < (x.length : Int)) <|
      .ret (.inl (.h0 y0 1)))) (
    .ret (.inl (.h0 0 0)))
noncomputable def step47 (x : (List Int)) : J47 → Tr (J47 ⊕ (Dhead × Bool))
  | .h0 v7 v12 =>
    .ite ((ilt v12 (x.length : Int)) == true) (
      .need ((0 : Int) ≤ v12) <|
      .need (v12 < (x.length : Int)) <|
      let y0 : Int := (rdc (.int .u8) x (v12).toNat)
      .ite (ieq (iand .u8 y0 240) 64) (
        .need ((0 : Int) ≤ v12) <|
        .need (v12 < (x.length : Int)) <|
        .ret (.inl (.h1 v7 true (iand .u8 y0 15) (iadd .i64 v12 1)))) (
        .ret (.inl (.h1 v7 false 0 v12)))) (
      .ret (.inl (.h1 v7 false 0 v12)))
  | .h1 v7 v8 v9 v12 =>
    .ite ((ilt v12 (x.length : Int)) == true) (
      .need ((0 : Int) ≤ v12) <|
      .need (v12 < (x.length : Int)) <|
      .ite (ieq (rdc (.int .u8) x (v12).toNat) 15) (
        let y0 : Int := (iadd .i64 v12 1)
        let y1 : Bool := ((ilt y0 (x.length : Int)) == true)
        .ite y1 (
          .need ((0 : Int) ≤ y0) <|
          .need (y0 < (x.length : Int)) <|
          let y2 : Int := (rdc (.int .u8) x (y0).toNat)
          .ite (ieq y2 56) (
            let y3 : Int := (iadd .i64 y0 1)
            .ret (.inl (.h2 v7 v8 v9 2 y3))) (
            .ite y1 (
              .need ((0 : Int) ≤ y0) <|
              .need (y0 < (x.length : Int)) <|
              let y4 : Bool := (ieq y2 58)
              .ite y4 (
                let y5 : Int := (iadd .i64 y0 1)
                .ret (.inl (.h2 v7 v8 v9 3 y5))) (
                .ret (.inl (.h2 v7 v8 v9 1 y0)))) (
              .ret (.inl (.h2 v7 v8 v9 1 y0))))) (
          .ite y1 (
            .need ((0 : Int) ≤ y0) <|
            .need (y0 < (x.length : Int)) <|
            let y6 : Int := (rdc (.int .u8) x (y0).toNat)
            let y7 : Bool := (ieq y6 58)
            .ite y7 (
              let y8 : Int := (iadd .i64 y0 1)
              .ret (.inl (.h2 v7 v8 v9 3 y8))) (
              .ret (.inl (.h2 v7 v8 v9 1 y0)))) (
            .ret (.inl (.h2 v7 v8 v9 1 y0))))) (
        .ret (.inl (.h2 v7 v8 v9 0 v12)))) (
      .ret (.inl (.h2 v7 v8 v9 0 v12)))
  | .h2 v7 v8 v9 v10 v12 =>
    .ite (ile (x.length : Int) v12) (
      .ret (.inr ((v7, (v8, (v9, (v10, (0, v12))))), false))) (
      .ret (.inl (.h3 v7 v8 v9 v10 v12)))
  | .h3 v7 v8 v9 v10 v12 =>
    .need ((0 : Int) ≤ v12) <|
    .need (v12 < (x.length : Int)) <|
    .ret (.inr ((v7, (v8, (v9, (v10, ((rdc (.int .u8) x (v12).toNat), (iadd .i64 v12 1)))))), true))
noncomputable def head47 (x : (List Int)) : J47 → Head
  | .h0 v7 v12 =>
    { fr := { id := 47, kind := .top, T := [(.fsl (.int .u8) x), .any, (.ptr 0 []), .any, (.ptr 1 [])] ++ List.replicate 128 .any, items := [.code (subc [1, 1, 1, 0, 0] (bodyOf Tryd.f47)), .code (subc [1, 1, 1, 0, 1] (bodyOf Tryd.f47)), .code (subc [1, 1, 1, 1] (bodyOf Tryd.f47))], D := [], base := 0 },
      stk := [],
      H := [.cell true 77 (.agg [1, 1, 1, 1, 1, 1] [(.int .u8 0), (.bool false), (.int .u8 0), (.int .u8 0), (.int .u8 0), (.int .i64 0)]), .cell true 77 (.agg [1, 1, 1, 1, 1, 1] [(.int .u8 v7), (.bool false), (.int .u8 0), (.int .u8 0), (.int .u8 0), (.int .i64 v12)])] }
  | .h1 v7 v8 v9 v12 =>
    { fr := { id := 47, kind := .top, T := [(.fsl (.int .u8) x), .any, (.ptr 0 []), .any, (.ptr 1 [])] ++ List.replicate 128 .any, items := [.code (subc [1, 1, 1, 1, 0, 0] (bodyOf Tryd.f47)), .code (subc [1, 1, 1, 1, 0, 1] (bodyOf Tryd.f47)), .code (subc [1, 1, 1, 1, 1] (bodyOf Tryd.f47))], D := [], base := 0 },
      stk := [],
      H := [.cell true 77 (.agg [1, 1, 1, 1, 1, 1] [(.int .u8 0), (.bool false), (.int .u8 0), (.int .u8 0), (.int .u8 0), (.int .i64 0)]), .cell true 77 (.agg [1, 1, 1, 1, 1, 1] [(.int .u8 v7), (.bool v8), (.int .u8 v9), (.int .u8 0), (.int .u8 0), (.int .i64 v12)])] }
  | .h2 v7 v8 v9 v10 v12 =>
    { fr := { id := 47, kind := .top, T := [(.fsl (.int .u8) x), .any, (.ptr 0 []), .any, (.ptr 1 [])] ++ List.replicate 128 .any, items := [.code (subc [1, 1, 1, 1, 1, 0, 0] (bodyOf Tryd.f47)), .code (subc [1, 1, 1, 1, 1, 0, 1] (bodyOf Tryd.f47)), .code (subc [1, 1, 1, 1, 1, 1] (bodyOf Tryd.f47))], D := [], base := 0 },
      stk := [],
      H := [.cell true 77 (.agg [1, 1, 1, 1, 1, 1] [(.int .u8 0), (.bool false), (.int .u8 0), (.int .u8 0), (.int .u8 0), (.int .i64 0)]), .cell true 77 (.agg [1, 1, 1, 1, 1, 1] [(.int .u8 v7), (.bool v8), (.int .u8 v9), (.int .u8 v10), (.int .u8 0), (.int .i64 v12)])] }
  | .h3 v7 v8 v9 v10 v12 =>
    { fr := { id := 47, kind := .top, T := [(.fsl (.int .u8) x), .any, (.ptr 0 []), .any, (.ptr 1 [])] ++ List.replicate 128 .any, items := [.code (subc [1, 1, 1, 1, 1, 1, 0] (bodyOf Tryd.f47)), .code (subc [1, 1, 1, 1, 1, 1, 1] (bodyOf Tryd.f47))], D := [], base := 0 },
      stk := [],
      H := [.cell true 77 (.agg [1, 1, 1, 1, 1, 1] [(.int .u8 0), (.bool false), (.int .u8 0), (.int .u8 0), (.int .u8 0), (.int .i64 0)]), .cell true 77 (.agg [1, 1, 1, 1, 1, 1] [(.int .u8 v7), (.bool v8), (.int .u8 v9), (.int .u8 v10), (.int .u8 0), (.int .i64 v12)])] }
noncomputable def stop47 : FuncId → Nat → Nat → Option Cut
  | 47, 11, 0 => some { tmps := [0, 2, 4], loops := [], dead := [], stk := [] }
  | 47, 19, 0 => some { tmps := [0, 2, 4], loops := [], dead := [], stk := [] }
  | 47, 37, 0 => some { tmps := [0, 2, 4], loops := [], dead := [], stk := [] }
  | 47, 41, 0 => some { tmps := [0, 2, 4], loops := [], dead := [], stk := [] }
  | _, _, _ => none
noncomputable def fn47 (x : (List Int)) : (Dhead × Bool) := endVal (TC.dflt (.st Chead (.st1 .bool))) (step47 x) (tree47 x)
def pre47 (x : (List Int)) : Prop := ∃ r, Ends (step47 x) r (tree47 x)
noncomputable def spec47 : Spec := { dom := (.st1 (.slice (.int .u8))), cod := (.st Chead (.st1 .bool)), n := 2, pre := pre47, f := fn47 }
noncomputable def need47 : FuncId → Option Spec
  | _ => none
theorem need47_ok : ∀ f sp, need47 f = some sp → SpecOk env0 f sp := by
  intro f sp h
  unfold need47 at h
  split at h
  · cases h
theorem run47 (W : Cfg) (Q : (Dhead × Bool) → Prop) (x : (List Int)) : run (env need47 (fun _ _ => none)) stop47 (finS spec47 Q) W 100000 (startFr 47 Tryd.f47 (bodyOf Tryd.f47) (argsOf (.st1 (.slice (.int .u8))) x)) [] [] = (tree47 x).wp (kont W Q (head47 x)) := by kernel_rfl
theorem run47h0 (W : Cfg) (Q : (Dhead × Bool) → Prop) (x : (List Int)) (v7 : Int) (v12 : Int) : run (env need47 (fun _ _ => none)) stop47 (finS spec47 Q) W 100000 (head47 x (.h0 v7 v12)).fr.enter (head47 x (.h0 v7 v12)).stk (head47 x (.h0 v7 v12)).H = (step47 x (.h0 v7 v12)).wp (kont W Q (head47 x)) := by kernel_rfl
theorem run47h1 (W : Cfg) (Q : (Dhead × Bool) → Prop) (x : (List Int)) (v7 : Int) (v8 : Bool) (v9 : Int) (v12 : Int) : run (env need47 (fun _ _ => none)) stop47 (finS spec47 Q) W 100000 (head47 x (.h1 v7 v8 v9 v12)).fr.enter (head47 x (.h1 v7 v8 v9 v12)).stk (head47 x (.h1 v7 v8 v9 v12)).H = (step47 x (.h1 v7 v8 v9 v12)).wp (kont W Q (head47 x)) := by kernel_rfl
theorem run47h2 (W : Cfg) (Q : (Dhead × Bool) → Prop) (x : (List Int)) (v7 : Int) (v8 : Bool) (v9 : Int) (v10 : Int) (v12 : Int) : run (env need47 (fun _ _ => none)) stop47 (finS spec47 Q) W 100000 (head47 x (.h2 v7 v8 v9 v10 v12)).fr.enter (head47 x (.h2 v7 v8 v9 v10 v12)).stk (head47 x (.h2 v7 v8 v9 v10 v12)).H = (step47 x (.h2 v7 v8 v9 v10 v12)).wp (kont W Q (head47 x)) := by kernel_rfl
theorem run47h3 (W : Cfg) (Q : (Dhead × Bool) → Prop) (x : (List Int)) (v7 : Int) (v8 : Bool) (v9 : Int) (v10 : Int) (v12 : Int) : run (env need47 (fun _ _ => none)) stop47 (finS spec47 Q) W 100000 (head47 x (.h3 v7 v8 v9 v10 v12)).fr.enter (head47 x (.h3 v7 v8 v9 v10 v12)).stk (head47 x (.h3 v7 v8 v9 v10 v12)).H = (step47 x (.h3 v7 v8 v9 v10 v12)).wp (kont W Q (head47 x)) := by kernel_rfl
theorem runs47 (W : Cfg) (Q : (Dhead × Bool) → Prop) (x : (List Int)) : ∀ j : J47, run (env need47 (fun _ _ => none)) stop47 (finS spec47 Q) W 100000 (head47 x j).fr.enter (head47 x j).stk (head47 x j).H = (step47 x j).wp (kont W Q (head47 x))
  | .h0 v7 v12 => run47h0 W Q x v7 v12
  | .h1 v7 v8 v9 v12 => run47h1 W Q x v7 v8 v9 v12
  | .h2 v7 v8 v9 v10 v12 => run47h2 W Q x v7 v8 v9 v10 v12
  | .h3 v7 v8 v9 v10 v12 => run47h3 W Q x v7 v8 v9 v10 v12
theorem ok47 : SpecOk env0 47 spec47 := SpecOk.env rfl (fun _ _ h => h) (spec_of_trees (E := (env need47 (fun _ _ => none))) (sp := spec47) (valid _ _) (fun f sp h => SpecOk.env rfl (fun _ _ h => h) (need47_ok f sp h)) (fn := Tryd.f47) (c := (bodyOf Tryd.f47)) (by kernel_rfl) (by kernel_rfl) tree47 step47 head47 run47 runs47 (fun _ h => endVal_ends h))

/-! ### sundial/sundialref07.sums -/
noncomputable def tree63 (_x : Unit) : Tr (List DForm) :=
  .need ((0 : Nat) < 8) <|
  .need ((1 : Nat) < 8) <|
  .need ((2 : Nat) < 8) <|
  .need ((3 : Nat) < 8) <|
  .need ((4 : Nat) < 8) <|
  .need ((5 : Nat) < 8) <|
  .need ((6 : Nat) < 8) <|
  .need ((7 : Nat) < 8) <|
  .need ((0 : Int) ≤ 0) <|
  .need ((0 : Int) < 8) <|
  .need ((0 : Nat) < 8) <|
  .need ((0 : Nat) < 1) <|
  .need (((0 : Nat) + 1 : Nat) ≤ 1) <|
  .need (((1 : Nat) * 56 : Nat) ≤ 2 ^ 40) <|
  .need ((1 : Nat) ≤ 2 ^ 40) <|
  .need ((0 : Int) ≤ 0) <|
  .need ((0 : Int) < 8) <|
  .need ((0 : Nat) < 8) <|
  .need ((0 : Nat) < 1) <|
  .need (((0 : Nat) + 1 : Nat) ≤ 1) <|
  .need ((1 : Nat) = 1) <|
  .need (((2 : Nat) * 56 : Nat) ≤ 2 ^ 40) <|
  .need ((2 : Nat) ≤ 2 ^ 40) <|
  .need ((0 : Int) ≤ 1) <|
  .need ((1 : Int) < 8) <|
  .need ((1 : Nat) < 8) <|
  .need ((0 : Nat) < 1) <|
  .need (((0 : Nat) + 1 : Nat) ≤ 1) <|
  .need ((2 : Nat) = 2) <|
  .need (((3 : Nat) * 56 : Nat) ≤ 2 ^ 40) <|
  .need ((3 : Nat) ≤ 2 ^ 40) <|
  .need ((0 : Int) ≤ 1) <|
  .need ((1 : Int) < 8) <|
  .need ((1 : Nat) < 8) <|
  .need ((0 : Nat) < 1) <|
  .need (((0 : Nat) + 1 : Nat) ≤ 1) <|
  .need ((3 : Nat) = 3) <|
  .need (((4 : Nat) * 56 : Nat) ≤ 2 ^ 40) <|
  .need ((4 : Nat) ≤ 2 ^ 40) <|
  .need ((0 : Int) ≤ 2) <|
  .need ((2 : Int) < 8) <|
  .need ((2 : Nat) < 8) <|
  .need ((0 : Nat) < 1) <|
  .need (((0 : Nat) + 1 : Nat) ≤ 1) <|
  .need ((4 : Nat) = 4) <|
  .need (((5 : Nat) * 56 : Nat) ≤ 2 ^ 40) <|
  .need ((5 : Nat) ≤ 2 ^ 40) <|
  .need ((0 : Int) ≤ 2) <|
  .need ((2 : Int) < 8) <|
  .need ((2 : Nat) < 8) <|
  .need ((0 : Nat) < 1) <|
  .need (((0 : Nat) + 1 : Nat) ≤ 1) <|
  .need ((5 : Nat) = 5) <|
  .need (((6 : Nat) * 56 : Nat) ≤ 2 ^ 40) <|
  .need ((6 : Nat) ≤ 2 ^ 40) <|
  .need ((0 : Int) ≤ 3) <|
  .need ((3 : Int) < 8) <|
  .need ((3 : Nat) < 8) <|
  .need ((0 : Nat) < 1) <|
  .need (((0 : Nat) + 1 : Nat) ≤ 1) <|
  .need ((6 : Nat) = 6) <|
  .need (((7 : Nat) * 56 : Nat) ≤ 2 ^ 40) <|
  .need ((7 : Nat) ≤ 2 ^ 40) <|
  .need ((0 : Int) ≤ 3) <|
  .need ((3 : Int) < 8) <|
  .need ((3 : Nat) < 8) <|
  .need ((0 : Nat) < 1) <|
  .need (((0 : Nat) + 1 : Nat) ≤ 1) <|
  .need ((7 : Nat) = 7) <|
  .need (((8 : Nat) * 56 : Nat) ≤ 2 ^ 40) <|
  .need ((8 : Nat) ≤ 2 ^ 40) <|
  .need ((0 : Int) ≤ 4) <|
  .need ((4 : Int) < 8) <|
  .need ((4 : Nat) < 8) <|
  .need ((0 : Nat) < 1) <|
  .need (((0 : Nat) + 1 : Nat) ≤ 1) <|
  .need ((8 : Nat) = 8) <|
  .need (((9 : Nat) * 56 : Nat) ≤ 2 ^ 40) <|
  .need ((9 : Nat) ≤ 2 ^ 40) <|
  .need ((0 : Int) ≤ 4) <|
  .need ((4 : Int) < 8) <|
  .need ((4 : Nat) < 8) <|
  .need ((0 : Nat) < 1) <|
  .need (((0 : Nat) + 1 : Nat) ≤ 1) <|
  .need ((9 : Nat) = 9) <|
  .need (((10 : Nat) * 56 : Nat) ≤ 2 ^ 40) <|
  .need ((10 : Nat) ≤ 2 ^ 40) <|
  .need ((0 : Int) ≤ 5) <|
  .need ((5 : Int) < 8) <|
  .need ((5 : Nat) < 8) <|
  .need ((0 : Nat) < 1) <|
  .need (((0 : Nat) + 1 : Nat) ≤ 1) <|
  .need ((10 : Nat) = 10) <|
  .need (((11 : Nat) * 56 : Nat) ≤ 2 ^ 40) <|
  .need ((11 : Nat) ≤ 2 ^ 40) <|
  .need ((0 : Int) ≤ 5) <|
  .need ((5 : Int) < 8) <|
  .need ((5 : Nat) < 8) <|
  .need ((0 : Nat) < 1) <|
  .need (((0 : Nat) + 1 : Nat) ≤ 1) <|
  .need ((11 : Nat) = 11) <|
  .need (((12 : Nat) * 56 : Nat) ≤ 2 ^ 40) <|
  .need ((12 : Nat) ≤ 2 ^ 40) <|
  .need ((0 : Int) ≤ 6) <|
  .need ((6 : Int) < 8) <|
  .need ((6 : Nat) < 8) <|
  .need ((0 : Nat) < 1) <|
  .need (((0 : Nat) + 1 : Nat) ≤ 1) <|
  .need ((12 : Nat) = 12) <|
  .need (((13 : Nat) * 56 : Nat) ≤ 2 ^ 40) <|
  .need ((13 : Nat) ≤ 2 ^ 40) <|
  .need ((0 : Int) ≤ 6) <|
  .need ((6 : Int) < 8) <|
  .need ((6 : Nat) < 8) <|
  .need ((0 : Nat) < 1) <|
  .need (((0 : Nat) + 1 : Nat) ≤ 1) <|
  .need ((13 : Nat) = 13) <|
  .need (((14 : Nat) * 56 : Nat) ≤ 2 ^ 40) <|
  .need ((14 : Nat) ≤ 2 ^ 40) <|
  .need ((0 : Int) ≤ 7) <|
  .need ((7 : Int) < 8) <|
  .need ((7 : Nat) < 8) <|
  .need ((0 : Nat) < 1) <|
  .need (((0 : Nat) + 1 : Nat) ≤ 1) <|
  .need ((14 : Nat) = 14) <|
  .need (((15 : Nat) * 56 : Nat) ≤ 2 ^ 40) <|
  .need ((15 : Nat) ≤ 2 ^ 40) <|
  .need ((0 : Int) ≤ 7) <|
  .need ((7 : Int) < 8) <|
  .need ((7 : Nat) < 8) <|
  .need ((0 : Nat) < 1) <|
  .need (((0 : Nat) + 1 : Nat) ≤ 1) <|
  .need ((15 : Nat) = 15) <|
  .need (((16 : Nat) * 56 : Nat) ≤ 2 ^ 40) <|
  .need ((16 : Nat) ≤ 2 ^ 40) <|
  .need ((0 : Int) ≤ 0) <|
  .need ((0 : Int) < 8) <|
  .need ((0 : Nat) < 8) <|
  .need ((0 : Nat) < 1) <|
  .need (((0 : Nat) + 1 : Nat) ≤ 1) <|
  .need ((16 : Nat) = 16) <|
  .need (((17 : Nat) * 56 : Nat) ≤ 2 ^ 40) <|
  .need ((17 : Nat) ≤ 2 ^ 40) <|
  .need ((0 : Int) ≤ 0) <|
  .need ((0 : Int) < 8) <|
  .need ((0 : Nat) < 8) <|
  .need ((0 : Nat) < 1) <|
  .need (((0 : Nat) + 1 : Nat) ≤ 1) <|
  .need ((17 : Nat) = 17) <|
  .need (((18 : Nat) * 56 : Nat) ≤ 2 ^ 40) <|
  .need ((18 : Nat) ≤ 2 ^ 40) <|
  .need ((0 : Int) ≤ 1) <|
  .need ((1 : Int) < 8) <|
  .need ((1 : Nat) < 8) <|
  .need ((0 : Nat) < 1) <|
  .need (((0 : Nat) + 1 : Nat) ≤ 1) <|
  .need ((18 : Nat) = 18) <|
  .need (((19 : Nat) * 56 : Nat) ≤ 2 ^ 40) <|
  .need ((19 : Nat) ≤ 2 ^ 40) <|
  .need ((0 : Int) ≤ 1) <|
  .need ((1 : Int) < 8) <|
  .need ((1 : Nat) < 8) <|
  .need ((0 : Nat) < 1) <|
  .need (((0 : Nat) + 1 : Nat) ≤ 1) <|
  .need ((19 : Nat) = 19) <|
  .need (((20 : Nat) * 56 : Nat) ≤ 2 ^ 40) <|
  .need ((20 : Nat) ≤ 2 ^ 40) <|
  .need ((0 : Int) ≤ 2) <|
  .need ((2 : Int) < 8) <|
  .need ((2 : Nat) < 8) <|
  .need ((0 : Nat) < 1) <|
  .need (((0 : Nat) + 1 : Nat) ≤ 1) <|
  .need ((20 : Nat) = 20) <|
  .need (((21 : Nat) * 56 : Nat) ≤ 2 ^ 40) <|
  .need ((21 : Nat) ≤ 2 ^ 40) <|
  .need ((0 : Int) ≤ 2) <|
  .need ((2 : Int) < 8) <|
  .need ((2 : Nat) < 8) <|
  .need ((0 : Nat) < 1) <|
  .need (((0 : Nat) + 1 : Nat) ≤ 1) <|
  .need ((21 : Nat) = 21) <|
  .need (((22 : Nat) * 56 : Nat) ≤ 2 ^ 40) <|
  .need ((22 : Nat) ≤ 2 ^ 40) <|
  .need ((0 : Int) ≤ 3) <|
  .need ((3 : Int) < 8) <|
  .need ((3 : Nat) < 8) <|
  .need ((0 : Nat) < 1) <|
  .need (((0 : Nat) + 1 : Nat) ≤ 1) <|
  .need ((22 : Nat) = 22) <|
  .need (((23 : Nat) * 56 : Nat) ≤ 2 ^ 40) <|
  .need ((23 : Nat) ≤ 2 ^ 40) <|
  .need ((0 : Int) ≤ 3) <|
  .need ((3 : Int) < 8) <|
  .need ((3 : Nat) < 8) <|
  .need ((0 : Nat) < 1) <|
  .need (((0 : Nat) + 1 : Nat) ≤ 1) <|
  .need ((23 : Nat) = 23) <|
  .need (((24 : Nat) * 56 : Nat) ≤ 2 ^ 40) <|
  .need ((24 : Nat) ≤ 2 ^ 40) <|
  .need ((0 : Int) ≤ 4) <|
  .need ((4 : Int) < 8) <|
  .need ((4 : Nat) < 8) <|
  .need ((0 : Nat) < 1) <|
  .need (((0 : Nat) + 1 : Nat) ≤ 1) <|
  .need ((24 : Nat) = 24) <|
  .need (((25 : Nat) * 56 : Nat) ≤ 2 ^ 40) <|
  .need ((25 : Nat) ≤ 2 ^ 40) <|
  .need ((0 : Int) ≤ 4) <|
  .need ((4 : Int) < 8) <|
  .need ((4 : Nat) < 8) <|
  .need ((0 : Nat) < 1) <|
  .need (((0 : Nat) + 1 : Nat) ≤ 1) <|
  .need ((25 : Nat) = 25) <|
  .need (((26 : Nat) * 56 : Nat) ≤ 2 ^ 40) <|
  .need ((26 : Nat) ≤ 2 ^ 40) <|
  .need ((0 : Int) ≤ 5) <|
  .need ((5 : Int) < 8) <|
  .need ((5 : Nat) < 8) <|
  .need ((0 : Nat) < 1) <|
  .need (((0 : Nat) + 1 : Nat) ≤ 1) <|
  .need ((26 : Nat) = 26) <|
  .need (((27 : Nat) * 56 : Nat) ≤ 2 ^ 40) <|
  .need ((27 : Nat) ≤ 2 ^ 40) <|
  .need ((0 : Int) ≤ 5) <|
  .need ((5 : Int) < 8) <|
  .need ((5 : Nat) < 8) <|
  .need ((0 : Nat) < 1) <|
  .need (((0 : Nat) + 1 : Nat) ≤ 1) <|
  .need ((27 : Nat) = 27) <|
  .need (((28 : Nat) * 56 : Nat) ≤ 2 ^ 40) <|
  .need ((28 : Nat) ≤ 2 ^ 40) <|
  .need ((0 : Int) ≤ 6) <|
  .need ((6 : Int) < 8) <|
  .need ((6 : Nat) < 8) <|
  .need ((0 : Nat) < 1) <|
  .need (((0 : Nat) + 1 : Nat) ≤ 1) <|
  .need ((28 : Nat) = 28) <|
  .need (((29 : Nat) * 56 : Nat) ≤ 2 ^ 40) <|
  .need ((29 : Nat) ≤ 2 ^ 40) <|
  .need ((0 : Int) ≤ 6) <|
  .need ((6 : Int) < 8) <|
  .need ((6 : Nat) < 8) <|
  .need ((0 : Nat) < 1) <|
  .need (((0 : Nat) + 1 : Nat) ≤ 1) <|
  .need ((29 : Nat) = 29) <|
  .need (((30 : Nat) * 56 : Nat) ≤ 2 ^ 40) <|
  .need ((30 : Nat) ≤ 2 ^ 40) <|
  .need ((0 : Int) ≤ 7) <|
  .need ((7 : Int) < 8) <|
  .need ((7 : Nat) < 8) <|
  .need ((0 : Nat) < 1) <|
  .need (((0 : Nat) + 1 : Nat) ≤ 1) <|
  .need ((30 : Nat) = 30) <|
  .need (((31 : Nat) * 56 : Nat) ≤ 2 ^ 40) <|
  .need ((31 : Nat) ≤ 2 ^ 40) <|
  .need ((0 : Int) ≤ 7) <|
  .need ((7 : Int) < 8) <|
  .need ((7 : Nat) < 8) <|
  .need ((0 : Nat) < 1) <|
  .need (((0 : Nat) + 1 : Nat) ≤ 1) <|
  .need ((31 : Nat) = 31) <|
  .need (((32 : Nat) * 56 : Nat) ≤ 2 ^ 40) <|
  .need ((32 : Nat) ≤ 2 ^ 40) <|
  .need ((0 : Nat) < 1) <|
  .need (((0 : Nat) + 1 : Nat) ≤ 1) <|
  .need ((32 : Nat) = 32) <|
  .need (((33 : Nat) * 56 : Nat) ≤ 2 ^ 40) <|
  .need ((33 : Nat) ≤ 2 ^ 40) <|
  .need ((0 : Nat) < 1) <|
  .need (((0 : Nat) + 1 : Nat) ≤ 1) <|
  .need ((33 : Nat) = 33) <|
  .need (((34 : Nat) * 56 : Nat) ≤ 2 ^ 40) <|
  .need ((34 : Nat) ≤ 2 ^ 40) <|
  .need ((0 : Nat) < 1) <|
  .need (((0 : Nat) + 1 : Nat) ≤ 1) <|
  .need ((34 : Nat) = 34) <|
  .need (((35 : Nat) * 56 : Nat) ≤ 2 ^ 40) <|
  .need ((35 : Nat) ≤ 2 ^ 40) <|
  .need ((0 : Nat) < 1) <|
  .need (((0 : Nat) + 1 : Nat) ≤ 1) <|
  .need ((35 : Nat) = 35) <|
  .need (((36 : Nat) * 56 : Nat) ≤ 2 ^ 40) <|
  .need ((36 : Nat) ≤ 2 ^ 40) <|
  .need ((0 : Nat) < 1) <|
  .need (((0 : Nat) + 1 : Nat) ≤ 1) <|
  .need ((36 : Nat) = 36) <|
  .need (((37 : Nat) * 56 : Nat) ≤ 2 ^ 40) <|
  .need ((37 : Nat) ≤ 2 ^ 40) <|
  .need ((0 : Nat) < 1) <|
  .need (((0 : Nat) + 1 : Nat) ≤ 1) <|
  .need ((37 : Nat) = 37) <|
  .need (((38 : Nat) * 56 : Nat) ≤ 2 ^ 40) <|
  .need ((38 : Nat) ≤ 2 ^ 40) <|
  .need ((0 : Nat) < 1) <|
  .need (((0 : Nat) + 1 : Nat) ≤ 1) <|
  .need ((38 : Nat) = 38) <|
  .need (((39 : Nat) * 56 : Nat) ≤ 2 ^ 40) <|
  .need ((39 : Nat) ≤ 2 ^ 40) <|
  .need ((0 : Nat) < 1) <|
  .need (((0 : Nat) + 1 : Nat) ≤ 1) <|
  .need ((39 : Nat) = 39) <|
  .need (((40 : Nat) * 56 : Nat) ≤ 2 ^ 40) <|
  .need ((40 : Nat) ≤ 2 ^ 40) <|
  .need ((0 : Nat) < 5) <|
  .need ((1 : Nat) < 5) <|
  .need ((2 : Nat) < 5) <|
  .need ((3 : Nat) < 5) <|
  .need ((4 : Nat) < 5) <|
  .need ((0 : Nat) < 5) <|
  .need ((1 : Nat) < 5) <|
  .need ((2 : Nat) < 5) <|
  .need ((3 : Nat) < 5) <|
  .need ((4 : Nat) < 5) <|
  .need ((0 : Int) ≤ 0) <|
  .need ((0 : Int) < 5) <|
  .need ((0 : Nat) < 5) <|
  .need ((0 : Int) ≤ 0) <|
  .need ((0 : Int) < 5) <|
  .need ((0 : Nat) < 5) <|
  .need ((0 : Nat) < 1) <|
  .need (((0 : Nat) + 1 : Nat) ≤ 1) <|
  .need ((40 : Nat) = 40) <|
  .need (((41 : Nat) * 56 : Nat) ≤ 2 ^ 40) <|
  .need ((41 : Nat) ≤ 2 ^ 40) <|
  .need ((0 : Int) ≤ 0) <|
  .need ((0 : Int) < 5) <|
  .need ((0 : Nat) < 5) <|
  .need ((0 : Int) ≤ 0) <|
  .need ((0 : Int) < 5) <|
  .need ((0 : Nat) < 5) <|
  .need ((0 : Nat) < 1) <|
  .need (((0 : Nat) + 1 : Nat) ≤ 1) <|
  .need ((41 : Nat) = 41) <|
  .need (((42 : Nat) * 56 : Nat) ≤ 2 ^ 40) <|
  .need ((42 : Nat) ≤ 2 ^ 40) <|
  .need ((0 : Int) ≤ 1) <|
  .need ((1 : Int) < 5) <|
  .need ((1 : Nat) < 5) <|
  .need ((0 : Int) ≤ 1) <|
  .need ((1 : Int) < 5) <|
  .need ((1 : Nat) < 5) <|
  .need ((0 : Nat) < 1) <|
  .need (((0 : Nat) + 1 : Nat) ≤ 1) <|
  .need ((42 : Nat) = 42) <|
  .need (((43 : Nat) * 56 : Nat) ≤ 2 ^ 40) <|
  .need ((43 : Nat) ≤ 2 ^ 40) <|
  .need ((0 : Int) ≤ 1) <|
  .need ((1 : Int) < 5) <|
  .need ((1 : Nat) < 5) <|
  .need ((0 : Int) ≤ 1) <|
  .need ((1 : Int) < 5) <|
  .need ((1 : Nat) < 5) <|
  .need ((0 : Nat) < 1) <|
  .need (((0 : Nat) + 1 : Nat) ≤ 1) <|
  .need ((43 : Nat) = 43) <|
  .need (((44 : Nat) * 56 : Nat) ≤ 2 ^ 40) <|
  .need ((44 : Nat) ≤ 2 ^ 40) <|
  .need ((0 : Int) ≤ 2) <|
  .need ((2 : Int) < 5) <|
  .need ((2 : Nat) < 5) <|
  .need ((0 : Int) ≤ 2) <|
  .need ((2 : Int) < 5) <|
  .need ((2 : Nat) < 5) <|
  .need ((0 : Nat) < 1) <|
  .need (((0 : Nat) + 1 : Nat) ≤ 1) <|
  .need ((44 : Nat) = 44) <|
  .need (((45 : Nat) * 56 : Nat) ≤ 2 ^ 40) <|
  .need ((45 : Nat) ≤ 2 ^ 40) <|
  .need ((0 : Int) ≤ 2) <|
  .need ((2 : Int) < 5) <|
  .need ((2 : Nat) < 5) <|
  .need ((0 : Int) ≤ 2) <|
  .need ((2 : Int) < 5) <|
  .need ((2 : Nat) < 5) <|
  .need ((0 : Nat) < 1) <|
  .need (((0 : Nat) + 1 : Nat) ≤ 1) <|
  .need ((45 : Nat) = 45) <|
  .need (((46 : Nat) * 56 : Nat) ≤ 2 ^ 40) <|
  .need ((46 : Nat) ≤ 2 ^ 40) <|
  .need ((0 : Int) ≤ 3) <|
  .need ((3 : Int) < 5) <|
  .need ((3 : Nat) < 5) <|
  .need ((0 : Int) ≤ 3) <|
  .need ((3 : Int) < 5) <|
  .need ((3 : Nat) < 5) <|
  .need ((0 : Nat) < 1) <|
  .need (((0 : Nat) + 1 : Nat) ≤ 1) <|
  .need ((46 : Nat) = 46) <|
  .need (((47 : Nat) * 56 : Nat) ≤ 2 ^ 40) <|
  .need ((47 : Nat) ≤ 2 ^ 40) <|
  .need ((0 : Int) ≤ 3) <|
  .need ((3 : Int) < 5) <|
  .need ((3 : Nat) < 5) <|
  .need ((0 : Int) ≤ 3) <|
  .need ((3 : Int) < 5) <|
  .need ((3 : Nat) < 5) <|
  .need ((0 : Nat) < 1) <|
  .need (((0 : Nat) + 1 : Nat) ≤ 1) <|
  .need ((47 : Nat) = 47) <|
  .need (((48 : Nat) * 56 : Nat) ≤ 2 ^ 40) <|
  .need ((48 : Nat) ≤ 2 ^ 40) <|
  .need ((0 : Int) ≤ 4) <|
  .need ((4 : Int) < 5) <|
  .need ((4 : Nat) < 5) <|
  .need ((0 : Int) ≤ 4) <|
  .need ((4 : Int) < 5) <|
  .need ((4 : Nat) < 5) <|
  .need ((0 : Nat) < 1) <|
  .need (((0 : Nat) + 1 : Nat) ≤ 1) <|
  .need ((48 : Nat) = 48) <|
  .need (((49 : Nat) * 56 : Nat) ≤ 2 ^ 40) <|
  .need ((49 : Nat) ≤ 2 ^ 40) <|
  .need ((0 : Int) ≤ 4) <|
  .need ((4 : Int) < 5) <|
  .need ((4 : Nat) < 5) <|
  .need ((0 : Int) ≤ 4) <|
  .need ((4 : Int) < 5) <|
  .need ((4 : Nat) < 5) <|
  .need ((0 : Nat) < 1) <|
  .need (((0 : Nat) + 1 : Nat) ≤ 1) <|
  .need ((49 : Nat) = 49) <|
  .need (((50 : Nat) * 56 : Nat) ≤ 2 ^ 40) <|
  .need ((50 : Nat) ≤ 2 ^ 40) <|
  .need ((0 : Nat) < 1) <|
  .need (((0 : Nat) + 1 : Nat) ≤ 1) <|
  .need ((50 : Nat) = 50) <|
  .need (((51 : Nat) * 56 : Nat) ≤ 2 ^ 40) <|
  .need ((51 : Nat) ≤ 2 ^ 40) <|
  .need (((0 : Nat) + 51 : Nat) ≤ 51) <|
  let y0 : (Bool × (Bool × (Bool × Bool))) := (false, (false, (false, false)))
  let y1 : (Int × (Bool × (Bool × (Bool × Bool)))) := (0, y0)
  let y2 : (Int × (Int × (Int × (Int × (Bool × (Bool × (Bool × Bool))))))) := (0, (0, (1, y1)))
  let y3 : (Int × (Int × (Int × (Int × (Bool × (Bool × (Bool × Bool))))))) := (0, (0, (2, y1)))
  let y4 : (Int × (Int × (Int × (Int × (Bool × (Bool × (Bool × Bool))))))) := (0, (0, (4, (1, y0))))
  let y5 : (Int × (Int × (Int × (Int × (Bool × (Bool × (Bool × Bool))))))) := (0, (0, (4, (4, y0))))
  let y6 : (Int × (Int × (Int × (Int × (Bool × (Bool × (Bool × Bool))))))) := (0, (0, (3, y1)))
  let y7 : (Int × (Int × (Int × (Int × (Bool × (Bool × (Bool × Bool))))))) := (0, (0, (5, y1)))
  .ret [(0, (0, (1, (false, ((-1), (3, y2)))))), (0, (0, (3, (false, ((-1), (3, y3)))))), (0, (0, (9, (false, ((-1), (4, y2)))))), (0, (0, (11, (false, ((-1), (4, y3)))))), (0, (0, (17, (false, ((-1), (5, y2)))))), (0, (0, (19, (false, ((-1), (5, y3)))))), (0, (0, (25, (false, ((-1), (6, y2)))))), (0, (0, (27, (false, ((-1), (6, y3)))))), (0, (0, (33, (false, ((-1), (7, y2)))))), (0, (0, (35, (false, ((-1), (7, y3)))))), (0, (0, (41, (false, ((-1), (8, y2)))))), (0, (0, (43, (false, ((-1), (8, y3)))))), (0, (0, (49, (false, ((-1), (9, y2)))))), (0, (0, (51, (false, ((-1), (9, y3)))))), (0, (0, (57, (false, ((-1), (10, y2)))))), (0, (0, (59, (false, ((-1), (10, y3)))))), (0, (0, (131, (false, (0, (3, y4)))))), (0, (0, (129, (false, (0, (3, y5)))))), (0, (0, (131, (false, (1, (4, y4)))))), (0, (0, (129, (false, (1, (4, y5)))))), (0, (0, (131, (false, (2, (5, y4)))))), (0, (0, (129, (false, (2, (5, y5)))))), (0, (0, (131, (false, (3, (6, y4)))))), (0, (0, (129, (false, (3, (6, y5)))))), (0, (0, (131, (false, (4, (7, y4)))))), (0, (0, (129, (false, (4, (7, y5)))))), (0, (0, (131, (false, (5, (8, y4)))))), (0, (0, (129, (false, (5, (8, y5)))))), (0, (0, (131, (false, (6, (9, y4)))))), (0, (0, (129, (false, (6, (9, y5)))))), (0, (0, (131, (false, (7, (10, y4)))))), (0, (0, (129, (false, (7, (10, y5)))))), (0, (0, (133, (false, ((-1), (11, y2)))))), (0, (0, (247, (false, (0, (11, y5)))))), (0, (0, (255, (false, (0, (12, y6)))))), (0, (0, (255, (false, (1, (13, y6)))))), (0, (0, (247, (false, (2, (15, y6)))))), (0, (0, (247, (false, (3, (14, y6)))))), (0, (0, (247, (false, (4, (22, y6)))))), (0, (0, (247, (false, (6, (23, y6)))))), (0, (0, (193, (false, (0, (19, y4)))))), (0, (0, (211, (false, (0, (19, y7)))))), (0, (0, (193, (false, (1, (20, y4)))))), (0, (0, (211, (false, (1, (20, y7)))))), (0, (0, (193, (false, (4, (16, y4)))))), (0, (0, (211, (false, (4, (16, y7)))))), (0, (0, (193, (false, (5, (17, y4)))))), (0, (0, (211, (false, (5, (17, y7)))))), (0, (0, (193, (false, (7, (18, y4)))))), (0, (0, (211, (false, (7, (18, y7)))))), (0, (1, (175, (false, ((-1), (21, y3))))))]
noncomputable def fn63 (x : Unit) : (List DForm) := (tree63 x).val
def pre63 (x : Unit) : Prop := (tree63 x).ok
noncomputable def spec63 : Spec := { dom := .unit, cod := (.slice CForm), n := 1, pre := pre63, f := fn63 }
noncomputable def need63 : FuncId → Option Spec
  | _ => none
theorem need63_ok : ∀ f sp, need63 f = some sp → SpecOk env0 f sp := by
  intro f sp h
  unfold need63 at h
  split at h
  · cases h
theorem run63 (W : Cfg) (Q : (List DForm) → Prop) (x : Unit) : run (env need63 (fun _ _ => none)) (fun _ _ _ => none) (finS spec63 Q) W 100000 (startFr 63 Tryd.f63 (bodyOf Tryd.f63) (argsOf .unit x)) [] [] = (tree63 x).wp Q := by kernel_rfl
theorem ok63 : SpecOk env0 63 spec63 := SpecOk.env rfl (fun _ _ h => h) (spec_of_tree (E := (env need63 (fun _ _ => none))) (sp := spec63) (valid _ _) (fun f sp h => SpecOk.env rfl (fun _ _ h => h) (need63_ok f sp h)) (fn := Tryd.f63) (c := (bodyOf Tryd.f63)) (by kernel_rfl) (by kernel_rfl) tree63 run63 (fun _ h => Tr.gives_val h))

/-! ### sundial/sundialref07.flows -/
noncomputable def tree64 (_x : Unit) : Tr (List DForm) :=
  .need ((0 : Nat) < 7) <|
  .need ((1 : Nat) < 7) <|
  .need ((2 : Nat) < 7) <|
  .need ((3 : Nat) < 7) <|
  .need ((4 : Nat) < 7) <|
  .need ((5 : Nat) < 7) <|
  .need ((6 : Nat) < 7) <|
  .need ((0 : Nat) < 1) <|
  .need (((0 : Nat) + 1 : Nat) ≤ 1) <|
  .need ((0 + 7 : Nat) ≤ 7) <|
  .need (((8 : Nat) * 56 : Nat) ≤ 2 ^ 40) <|
  .need ((8 : Nat) ≤ 2 ^ 40) <|
  .need ((0 : Nat) < 1) <|
  .need (((0 : Nat) + 1 : Nat) ≤ 1) <|
  .need ((8 : Nat) = 8) <|
  .need (((9 : Nat) * 56 : Nat) ≤ 2 ^ 40) <|
  .need ((9 : Nat) ≤ 2 ^ 40) <|
  .need ((0 : Nat) < 1) <|
  .need (((0 : Nat) + 1 : Nat) ≤ 1) <|
  .need ((9 : Nat) = 9) <|
  .need (((10 : Nat) * 56 : Nat) ≤ 2 ^ 40) <|
  .need ((10 : Nat) ≤ 2 ^ 40) <|
  .need ((0 : Nat) < 1) <|
  .need (((0 : Nat) + 1 : Nat) ≤ 1) <|
  .need ((10 : Nat) = 10) <|
  .need (((11 : Nat) * 56 : Nat) ≤ 2 ^ 40) <|
  .need ((11 : Nat) ≤ 2 ^ 40) <|
  .need ((0 : Nat) < 1) <|
  .need (((0 : Nat) + 1 : Nat) ≤ 1) <|
  .need ((11 : Nat) = 11) <|
  .need (((12 : Nat) * 56 : Nat) ≤ 2 ^ 40) <|
  .need ((12 : Nat) ≤ 2 ^ 40) <|
  .need ((0 : Nat) < 1) <|
  .need (((0 : Nat) + 1 : Nat) ≤ 1) <|
  .need ((12 : Nat) = 12) <|
  .need (((13 : Nat) * 56 : Nat) ≤ 2 ^ 40) <|
  .need ((13 : Nat) ≤ 2 ^ 40) <|
  .need ((0 : Nat) < 1) <|
  .need (((0 : Nat) + 1 : Nat) ≤ 1) <|
  .need ((13 : Nat) = 13) <|
  .need (((14 : Nat) * 56 : Nat) ≤ 2 ^ 40) <|
  .need ((14 : Nat) ≤ 2 ^ 40) <|
  .need ((0 : Nat) < 1) <|
  .need (((0 : Nat) + 1 : Nat) ≤ 1) <|
  .need ((14 : Nat) = 14) <|
  .need (((15 : Nat) * 56 : Nat) ≤ 2 ^ 40) <|
  .need ((15 : Nat) ≤ 2 ^ 40) <|
  .need ((0 : Nat) < 1) <|
  .need (((0 : Nat) + 1 : Nat) ≤ 1) <|
  .need ((15 : Nat) = 15) <|
  .need (((16 : Nat) * 56 : Nat) ≤ 2 ^ 40) <|
  .need ((16 : Nat) ≤ 2 ^ 40) <|
  .need ((0 : Nat) < 1) <|
  .need (((0 : Nat) + 1 : Nat) ≤ 1) <|
  .need ((16 : Nat) = 16) <|
  .need (((17 : Nat) * 56 : Nat) ≤ 2 ^ 40) <|
  .need ((17 : Nat) ≤ 2 ^ 40) <|
  .need ((0 : Nat) < 1) <|
  .need (((0 : Nat) + 1 : Nat) ≤ 1) <|
  .need ((17 : Nat) = 17) <|
  .need (((18 : Nat) * 56 : Nat) ≤ 2 ^ 40) <|
  .need ((18 : Nat) ≤ 2 ^ 40) <|
  .need ((0 : Nat) < 1) <|
  .need (((0 : Nat) + 1 : Nat) ≤ 1) <|
  .need ((18 : Nat) = 18) <|
  .need (((19 : Nat) * 56 : Nat) ≤ 2 ^ 40) <|
  .need ((19 : Nat) ≤ 2 ^ 40) <|
  .need ((0 : Nat) < 1) <|
  .need (((0 : Nat) + 1 : Nat) ≤ 1) <|
  .need ((19 : Nat) = 19) <|
  .need (((20 : Nat) * 56 : Nat) ≤ 2 ^ 40) <|
  .need ((20 : Nat) ≤ 2 ^ 40) <|
  .need ((0 : Nat) < 1) <|
  .need (((0 : Nat) + 1 : Nat) ≤ 1) <|
  .need ((20 : Nat) = 20) <|
  .need (((21 : Nat) * 56 : Nat) ≤ 2 ^ 40) <|
  .need ((21 : Nat) ≤ 2 ^ 40) <|
  .need ((0 : Nat) < 1) <|
  .need (((0 : Nat) + 1 : Nat) ≤ 1) <|
  .need ((21 : Nat) = 21) <|
  .need (((22 : Nat) * 56 : Nat) ≤ 2 ^ 40) <|
  .need ((22 : Nat) ≤ 2 ^ 40) <|
  .need ((0 : Nat) < 1) <|
  .need (((0 : Nat) + 1 : Nat) ≤ 1) <|
  .need ((22 : Nat) = 22) <|
  .need (((23 : Nat) * 56 : Nat) ≤ 2 ^ 40) <|
  .need ((23 : Nat) ≤ 2 ^ 40) <|
  .need ((0 : Nat) < 1) <|
  .need (((0 : Nat) + 1 : Nat) ≤ 1) <|
  .need ((23 : Nat) = 23) <|
  .need (((24 : Nat) * 56 : Nat) ≤ 2 ^ 40) <|
  .need ((24 : Nat) ≤ 2 ^ 40) <|
  .need ((0 : Nat) < 1) <|
  .need (((0 : Nat) + 1 : Nat) ≤ 1) <|
  .need ((24 : Nat) = 24) <|
  .need (((25 : Nat) * 56 : Nat) ≤ 2 ^ 40) <|
  .need ((25 : Nat) ≤ 2 ^ 40) <|
  .need ((0 : Nat) < 1) <|
  .need (((0 : Nat) + 1 : Nat) ≤ 1) <|
  .need ((25 : Nat) = 25) <|
  .need (((26 : Nat) * 56 : Nat) ≤ 2 ^ 40) <|
  .need ((26 : Nat) ≤ 2 ^ 40) <|
  .need ((0 : Nat) < 1) <|
  .need (((0 : Nat) + 1 : Nat) ≤ 1) <|
  .need ((26 : Nat) = 26) <|
  .need (((27 : Nat) * 56 : Nat) ≤ 2 ^ 40) <|
  .need ((27 : Nat) ≤ 2 ^ 40) <|
  .need ((0 : Nat) < 1) <|
  .need (((0 : Nat) + 1 : Nat) ≤ 1) <|
  .need ((27 : Nat) = 27) <|
  .need (((28 : Nat) * 56 : Nat) ≤ 2 ^ 40) <|
  .need ((28 : Nat) ≤ 2 ^ 40) <|
  .need ((0 : Nat) < 1) <|
  .need (((0 : Nat) + 1 : Nat) ≤ 1) <|
  .need ((28 : Nat) = 28) <|
  .need (((29 : Nat) * 56 : Nat) ≤ 2 ^ 40) <|
  .need ((29 : Nat) ≤ 2 ^ 40) <|
  .need ((0 : Nat) < 1) <|
  .need (((0 : Nat) + 1 : Nat) ≤ 1) <|
  .need ((29 : Nat) = 29) <|
  .need (((30 : Nat) * 56 : Nat) ≤ 2 ^ 40) <|
  .need ((30 : Nat) ≤ 2 ^ 40) <|
  .need ((0 : Nat) < 1) <|
  .need (((0 : Nat) + 1 : Nat) ≤ 1) <|
  .need ((30 : Nat) = 30) <|
  .need (((31 : Nat) * 56 : Nat) ≤ 2 ^ 40) <|
  .need ((31 : Nat) ≤ 2 ^ 40) <|
  .need ((0 : Nat) < 1) <|
  .need (((0 : Nat) + 1 : Nat) ≤ 1) <|
  .need ((31 : Nat) = 31) <|
  .need (((32 : Nat) * 56 : Nat) ≤ 2 ^ 40) <|
  .need ((32 : Nat) ≤ 2 ^ 40) <|
  .need ((0 : Nat) < 1) <|
  .need (((0 : Nat) + 1 : Nat) ≤ 1) <|
  .need ((32 : Nat) = 32) <|
  .need (((33 : Nat) * 56 : Nat) ≤ 2 ^ 40) <|
  .need ((33 : Nat) ≤ 2 ^ 40) <|
  .need ((0 : Nat) < 1) <|
  .need (((0 : Nat) + 1 : Nat) ≤ 1) <|
  .need ((33 : Nat) = 33) <|
  .need (((34 : Nat) * 56 : Nat) ≤ 2 ^ 40) <|
  .need ((34 : Nat) ≤ 2 ^ 40) <|
  .need ((0 : Nat) < 1) <|
  .need (((0 : Nat) + 1 : Nat) ≤ 1) <|
  .need ((34 : Nat) = 34) <|
  .need (((35 : Nat) * 56 : Nat) ≤ 2 ^ 40) <|
  .need ((35 : Nat) ≤ 2 ^ 40) <|
  .need ((0 : Nat) < 1) <|
  .need (((0 : Nat) + 1 : Nat) ≤ 1) <|
  .need ((35 : Nat) = 35) <|
  .need (((36 : Nat) * 56 : Nat) ≤ 2 ^ 40) <|
  .need ((36 : Nat) ≤ 2 ^ 40) <|
  .need ((0 : Nat) < 1) <|
  .need (((0 : Nat) + 1 : Nat) ≤ 1) <|
  .need ((36 : Nat) = 36) <|
  .need (((37 : Nat) * 56 : Nat) ≤ 2 ^ 40) <|
  .need ((37 : Nat) ≤ 2 ^ 40) <|
  .need ((0 : Nat) < 1) <|
  .need (((0 : Nat) + 1 : Nat) ≤ 1) <|
  .need ((37 : Nat) = 37) <|
  .need (((38 : Nat) * 56 : Nat) ≤ 2 ^ 40) <|
  .need ((38 : Nat) ≤ 2 ^ 40) <|
  .need ((0 : Nat) < 1) <|
  .need (((0 : Nat) + 1 : Nat) ≤ 1) <|
  .need ((38 : Nat) = 38) <|
  .need (((39 : Nat) * 56 : Nat) ≤ 2 ^ 40) <|
  .need ((39 : Nat) ≤ 2 ^ 40) <|
  .need ((0 : Nat) < 1) <|
  .need (((0 : Nat) + 1 : Nat) ≤ 1) <|
  .need ((39 : Nat) = 39) <|
  .need (((40 : Nat) * 56 : Nat) ≤ 2 ^ 40) <|
  .need ((40 : Nat) ≤ 2 ^ 40) <|
  .need ((0 : Nat) < 1) <|
  .need (((0 : Nat) + 1 : Nat) ≤ 1) <|
  .need ((40 : Nat) = 40) <|
  .need (((41 : Nat) * 56 : Nat) ≤ 2 ^ 40) <|
  .need ((41 : Nat) ≤ 2 ^ 40) <|
  .need ((0 : Nat) < 1) <|
  .need (((0 : Nat) + 1 : Nat) ≤ 1) <|
  .need ((41 : Nat) = 41) <|
  .need (((42 : Nat) * 56 : Nat) ≤ 2 ^ 40) <|
  .need ((42 : Nat) ≤ 2 ^ 40) <|
  .need ((0 : Nat) < 1) <|
  .need (((0 : Nat) + 1 : Nat) ≤ 1) <|
  .need ((42 : Nat) = 42) <|
  .need (((43 : Nat) * 56 : Nat) ≤ 2 ^ 40) <|
  .need ((43 : Nat) ≤ 2 ^ 40) <|
  .need ((0 : Nat) < 1) <|
  .need (((0 : Nat) + 1 : Nat) ≤ 1) <|
  .need ((43 : Nat) = 43) <|
  .need (((44 : Nat) * 56 : Nat) ≤ 2 ^ 40) <|
  .need ((44 : Nat) ≤ 2 ^ 40) <|
  .need ((0 : Nat) < 1) <|
  .need (((0 : Nat) + 1 : Nat) ≤ 1) <|
  .need ((44 : Nat) = 44) <|
  .need (((45 : Nat) * 56 : Nat) ≤ 2 ^ 40) <|
  .need ((45 : Nat) ≤ 2 ^ 40) <|
  .need ((0 : Nat) < 1) <|
  .need (((0 : Nat) + 1 : Nat) ≤ 1) <|
  .need ((45 : Nat) = 45) <|
  .need (((46 : Nat) * 56 : Nat) ≤ 2 ^ 40) <|
  .need ((46 : Nat) ≤ 2 ^ 40) <|
  .need ((0 : Nat) < 1) <|
  .need (((0 : Nat) + 1 : Nat) ≤ 1) <|
  .need ((46 : Nat) = 46) <|
  .need (((47 : Nat) * 56 : Nat) ≤ 2 ^ 40) <|
  .need ((47 : Nat) ≤ 2 ^ 40) <|
  .need ((0 : Nat) < 1) <|
  .need (((0 : Nat) + 1 : Nat) ≤ 1) <|
  .need ((47 : Nat) = 47) <|
  .need (((48 : Nat) * 56 : Nat) ≤ 2 ^ 40) <|
  .need ((48 : Nat) ≤ 2 ^ 40) <|
  .need ((0 : Nat) < 1) <|
  .need (((0 : Nat) + 1 : Nat) ≤ 1) <|
  .need ((48 : Nat) = 48) <|
  .need (((49 : Nat) * 56 : Nat) ≤ 2 ^ 40) <|
  .need ((49 : Nat) ≤ 2 ^ 40) <|
  .need ((0 : Nat) < 1) <|
  .need (((0 : Nat) + 1 : Nat) ≤ 1) <|
  .need ((49 : Nat) = 49) <|
  .need (((50 : Nat) * 56 : Nat) ≤ 2 ^ 40) <|
  .need ((50 : Nat) ≤ 2 ^ 40) <|
  .need ((0 : Nat) < 1) <|
  .need (((0 : Nat) + 1 : Nat) ≤ 1) <|
  .need ((50 : Nat) = 50) <|
  .need (((51 : Nat) * 56 : Nat) ≤ 2 ^ 40) <|
  .need ((51 : Nat) ≤ 2 ^ 40) <|
  .need ((0 : Nat) < 1) <|
  .need (((0 : Nat) + 1 : Nat) ≤ 1) <|
  .need ((51 : Nat) = 51) <|
  .need (((52 : Nat) * 56 : Nat) ≤ 2 ^ 40) <|
  .need ((52 : Nat) ≤ 2 ^ 40) <|
  .need ((0 : Nat) < 1) <|
  .need (((0 : Nat) + 1 : Nat) ≤ 1) <|
  .need ((52 : Nat) = 52) <|
  .need (((53 : Nat) * 56 : Nat) ≤ 2 ^ 40) <|
  .need ((53 : Nat) ≤ 2 ^ 40) <|
  .need ((0 : Nat) < 1) <|
  .need (((0 : Nat) + 1 : Nat) ≤ 1) <|
  .need ((53 : Nat) = 53) <|
  .need (((54 : Nat) * 56 : Nat) ≤ 2 ^ 40) <|
  .need ((54 : Nat) ≤ 2 ^ 40) <|
  .need ((0 : Nat) < 1) <|
  .need (((0 : Nat) + 1 : Nat) ≤ 1) <|
  .need ((54 : Nat) = 54) <|
  .need (((55 : Nat) * 56 : Nat) ≤ 2 ^ 40) <|
  .need ((55 : Nat) ≤ 2 ^ 40) <|
  .need ((0 : Nat) < 1) <|
  .need (((0 : Nat) + 1 : Nat) ≤ 1) <|
  .need ((55 : Nat) = 55) <|
  .need (((56 : Nat) * 56 : Nat) ≤ 2 ^ 40) <|
  .need ((56 : Nat) ≤ 2 ^ 40) <|
  .need ((0 : Nat) < 1) <|
  .need (((0 : Nat) + 1 : Nat) ≤ 1) <|
  .need ((56 : Nat) = 56) <|
  .need (((57 : Nat) * 56 : Nat) ≤ 2 ^ 40) <|
  .need ((57 : Nat) ≤ 2 ^ 40) <|
  .need ((0 : Nat) < 1) <|
  .need (((0 : Nat) + 1 : Nat) ≤ 1) <|
  .need ((57 : Nat) = 57) <|
  .need (((58 : Nat) * 56 : Nat) ≤ 2 ^ 40) <|
  .need ((58 : Nat) ≤ 2 ^ 40) <|
  .need ((0 : Nat) < 1) <|
  .need (((0 : Nat) + 1 : Nat) ≤ 1) <|
  .need ((58 : Nat) = 58) <|
  .need (((59 : Nat) * 56 : Nat) ≤ 2 ^ 40) <|
  .need ((59 : Nat) ≤ 2 ^ 40) <|
  .need ((0 : Nat) < 1) <|
  .need (((0 : Nat) + 1 : Nat) ≤ 1) <|
  .need ((59 : Nat) = 59) <|
  .need (((60 : Nat) * 56 : Nat) ≤ 2 ^ 40) <|
  .need ((60 : Nat) ≤ 2 ^ 40) <|
  .need ((0 : Nat) < 1) <|
  .need (((0 : Nat) + 1 : Nat) ≤ 1) <|
  .need ((60 : Nat) = 60) <|
  .need (((61 : Nat) * 56 : Nat) ≤ 2 ^ 40) <|
  .need ((61 : Nat) ≤ 2 ^ 40) <|
  .need ((0 : Nat) < 1) <|
  .need (((0 : Nat) + 1 : Nat) ≤ 1) <|
  .need ((61 : Nat) = 61) <|
  .need (((62 : Nat) * 56 : Nat) ≤ 2 ^ 40) <|
  .need ((62 : Nat) ≤ 2 ^ 40) <|
  .need ((0 : Nat) < 1) <|
  .need (((0 : Nat) + 1 : Nat) ≤ 1) <|
  .need ((62 : Nat) = 62) <|
  .need (((63 : Nat) * 56 : Nat) ≤ 2 ^ 40) <|
  .need ((63 : Nat) ≤ 2 ^ 40) <|
  .need ((0 : Nat) < 1) <|
  .need (((0 : Nat) + 1 : Nat) ≤ 1) <|
  .need ((63 : Nat) = 63) <|
  .need (((64 : Nat) * 56 : Nat) ≤ 2 ^ 40) <|
  .need ((64 : Nat) ≤ 2 ^ 40) <|
  .need ((0 : Nat) < 1) <|
  .need (((0 : Nat) + 1 : Nat) ≤ 1) <|
  .need ((64 : Nat) = 64) <|
  .need (((65 : Nat) * 56 : Nat) ≤ 2 ^ 40) <|
  .need ((65 : Nat) ≤ 2 ^ 40) <|
  .need ((0 : Nat) < 1) <|
  .need (((0 : Nat) + 1 : Nat) ≤ 1) <|
  .need ((65 : Nat) = 65) <|
  .need (((66 : Nat) * 56 : Nat) ≤ 2 ^ 40) <|
  .need ((66 : Nat) ≤ 2 ^ 40) <|
  .need ((0 : Nat) < 1) <|
  .need (((0 : Nat) + 1 : Nat) ≤ 1) <|
  .need ((66 : Nat) = 66) <|
  .need (((67 : Nat) * 56 : Nat) ≤ 2 ^ 40) <|
  .need ((67 : Nat) ≤ 2 ^ 40) <|
  .need ((0 : Nat) < 1) <|
  .need (((0 : Nat) + 1 : Nat) ≤ 1) <|
  .need ((67 : Nat) = 67) <|
  .need (((68 : Nat) * 56 : Nat) ≤ 2 ^ 40) <|
  .need ((68 : Nat) ≤ 2 ^ 40) <|
  .need ((0 : Nat) < 1) <|
  .need (((0 : Nat) + 1 : Nat) ≤ 1) <|
  .need ((68 : Nat) = 68) <|
  .need (((69 : Nat) * 56 : Nat) ≤ 2 ^ 40) <|
  .need ((69 : Nat) ≤ 2 ^ 40) <|
  .need ((0 : Nat) < 1) <|
  .need (((0 : Nat) + 1 : Nat) ≤ 1) <|
  .need ((69 : Nat) = 69) <|
  .need (((70 : Nat) * 56 : Nat) ≤ 2 ^ 40) <|
  .need ((70 : Nat) ≤ 2 ^ 40) <|
  .need ((0 : Nat) < 1) <|
  .need (((0 : Nat) + 1 : Nat) ≤ 1) <|
  .need ((70 : Nat) = 70) <|
  .need (((71 : Nat) * 56 : Nat) ≤ 2 ^ 40) <|
  .need ((71 : Nat) ≤ 2 ^ 40) <|
  .need (((0 : Nat) + 71 : Nat) ≤ 71) <|
  let y0 : (Bool × (Bool × (Bool × Bool))) := (false, (false, (false, false)))
  let y1 : (Int × (Bool × (Bool × (Bool × Bool)))) := (0, y0)
  let y2 : (Int × (Int × (Int × (Int × (Bool × (Bool × (Bool × Bool))))))) := (0, (8, (6, y1)))
  let y3 : (Int × (Int × (Int × (Bool × (Bool × (Bool × Bool)))))) := (8, (8, (4, y0)))
  let y4 : (Int × (Int × (Int × (Int × (Bool × (Bool × (Bool × Bool))))))) := (0, y3)
  let y5 : (Int × (Int × (Int × (Bool × (Bool × (Bool × Bool)))))) := (8, (8, (1, y0)))
  let y6 : (Int × (Int × (Int × (Int × (Bool × (Bool × (Bool × Bool))))))) := (0, y5)
  let y7 : (Int × (Int × (Int × (Bool × (Bool × (Bool × Bool)))))) := (0, (2, y1))
  let y8 : (Int × (Int × (Int × (Bool × (Bool × (Bool × Bool)))))) := (1, (3, (0, (false, (false, (true, false))))))
  .ret [(0, (0, (80, (true, ((-1), (24, y2)))))), (0, (0, (88, (true, ((-1), (25, y2)))))), (0, (0, (232, (false, ((-1), (26, y4)))))), (0, (0, (195, (false, ((-1), (27, (0, (8, (0, y1))))))))), (0, (0, (233, (false, ((-1), (28, y4)))))), (0, (0, (235, (false, ((-1), (28, y6)))))), (0, (0, (255, (false, (4, (28, (0, (8, (3, y1))))))))), (0, (1, (128, (false, ((-1), (29, y4)))))), (0, (0, (112, (false, ((-1), (29, y6)))))), (0, (1, (129, (false, ((-1), (29, (1, y3))))))), (0, (0, (113, (false, ((-1), (29, (1, y5))))))), (0, (1, (130, (false, ((-1), (29, (2, y3))))))), (0, (0, (114, (false, ((-1), (29, (2, y5))))))), (0, (1, (131, (false, ((-1), (29, (3, y3))))))), (0, (0, (115, (false, ((-1), (29, (3, y5))))))), (0, (1, (132, (false, ((-1), (29, (4, y3))))))), (0, (0, (116, (false, ((-1), (29, (4, y5))))))), (0, (1, (133, (false, ((-1), (29, (5, y3))))))), (0, (0, (117, (false, ((-1), (29, (5, y5))))))), (0, (1, (134, (false, ((-1), (29, (6, y3))))))), (0, (0, (118, (false, ((-1), (29, (6, y5))))))), (0, (1, (135, (false, ((-1), (29, (7, y3))))))), (0, (0, (119, (false, ((-1), (29, (7, y5))))))), (0, (1, (136, (false, ((-1), (29, (8, y3))))))), (0, (0, (120, (false, ((-1), (29, (8, y5))))))), (0, (1, (137, (false, ((-1), (29, (9, y3))))))), (0, (0, (121, (false, ((-1), (29, (9, y5))))))), (0, (1, (138, (false, ((-1), (29, (10, y3))))))), (0, (0, (122, (false, ((-1), (29, (10, y5))))))), (0, (1, (139, (false, ((-1), (29, (11, y3))))))), (0, (0, (123, (false, ((-1), (29, (11, y5))))))), (0, (1, (140, (false, ((-1), (29, (12, y3))))))), (0, (0, (124, (false, ((-1), (29, (12, y5))))))), (0, (1, (141, (false, ((-1), (29, (13, y3))))))), (0, (0, (125, (false, ((-1), (29, (13, y5))))))), (0, (1, (142, (false, ((-1), (29, (14, y3))))))), (0, (0, (126, (false, ((-1), (29, (14, y5))))))), (0, (1, (143, (false, ((-1), (29, (15, y3))))))), (0, (0, (127, (false, ((-1), (29, (15, y5))))))), (0, (1, (64, (false, ((-1), (30, (0, y7))))))), (0, (1, (65, (false, ((-1), (30, (1, y7))))))), (0, (1, (66, (false, ((-1), (30, (2, y7))))))), (0, (1, (67, (false, ((-1), (30, (3, y7))))))), (0, (1, (68, (false, ((-1), (30, (4, y7))))))), (0, (1, (69, (false, ((-1), (30, (5, y7))))))), (0, (1, (70, (false, ((-1), (30, (6, y7))))))), (0, (1, (71, (false, ((-1), (30, (7, y7))))))), (0, (1, (72, (false, ((-1), (30, (8, y7))))))), (0, (1, (73, (false, ((-1), (30, (9, y7))))))), (0, (1, (74, (false, ((-1), (30, (10, y7))))))), (0, (1, (75, (false, ((-1), (30, (11, y7))))))), (0, (1, (76, (false, ((-1), (30, (12, y7))))))), (0, (1, (77, (false, ((-1), (30, (13, y7))))))), (0, (1, (78, (false, ((-1), (30, (14, y7))))))), (0, (1, (79, (false, ((-1), (30, (15, y7))))))), (0, (1, (144, (false, (0, (31, (0, y8))))))), (0, (1, (145, (false, (0, (31, (1, y8))))))), (0, (1, (146, (false, (0, (31, (2, y8))))))), (0, (1, (147, (false, (0, (31, (3, y8))))))), (0, (1, (148, (false, (0, (31, (4, y8))))))), (0, (1, (149, (false, (0, (31, (5, y8))))))), (0, (1, (150, (false, (0, (31, (6, y8))))))), (0, (1, (151, (false, (0, (31, (7, y8))))))), (0, (1, (152, (false, (0, (31, (8, y8))))))), (0, (1, (153, (false, (0, (31, (9, y8))))))), (0, (1, (154, (false, (0, (31, (10, y8))))))), (0, (1, (155, (false, (0, (31, (11, y8))))))), (0, (1, (156, (false, (0, (31, (12, y8))))))), (0, (1, (157, (false, (0, (31, (13, y8))))))), (0, (1, (158, (false, (0, (31, (14, y8))))))), (0, (1, (159, (false, (0, (31, (15, y8)))))))]
noncomputable def fn64 (x : Unit) : (List DForm) := (tree64 x).val
def pre64 (x : Unit) : Prop := (tree64 x).ok
noncomputable def spec64 : Spec := { dom := .unit, cod := (.slice CForm), n := 1, pre := pre64, f := fn64 }
noncomputable def need64 : FuncId → Option Spec
  | _ => none
theorem need64_ok : ∀ f sp, need64 f = some sp → SpecOk env0 f sp := by
  intro f sp h
  unfold need64 at h
  split at h
  · cases h
theorem run64 (W : Cfg) (Q : (List DForm) → Prop) (x : Unit) : run (env need64 (fun _ _ => none)) (fun _ _ _ => none) (finS spec64 Q) W 100000 (startFr 64 Tryd.f64 (bodyOf Tryd.f64) (argsOf .unit x)) [] [] = (tree64 x).wp Q := by kernel_rfl
theorem ok64 : SpecOk env0 64 spec64 := SpecOk.env rfl (fun _ _ h => h) (spec_of_tree (E := (env need64 (fun _ _ => none))) (sp := spec64) (valid _ _) (fun f sp h => SpecOk.env rfl (fun _ _ h => h) (need64_ok f sp h)) (fn := Tryd.f64) (c := (bodyOf Tryd.f64)) (by kernel_rfl) (by kernel_rfl) tree64 run64 (fun _ h => Tr.gives_val h))

end Go.Eng.RD
end
section
/- Functions of this program, written out. -/
namespace Go.Eng.RD
open Go.Proofs Go.Eng
set_option maxRecDepth 100000

/-! ### sundial/sundialref07.others -/
noncomputable def tree65 (_x : Unit) : Tr (List DForm) :=
  .need ((0 : Nat) < 9) <|
  .need ((1 : Nat) < 9) <|
  .need ((2 : Nat) < 9) <|
  .need ((3 : Nat) < 9) <|
  .need ((4 : Nat) < 9) <|
  .need ((5 : Nat) < 9) <|
  .need ((6 : Nat) < 9) <|
  .need ((7 : Nat) < 9) <|
  .need ((8 : Nat) < 9) <|
  .need (((0 : Nat) + 9 : Nat) ≤ 9) <|
  let y0 : (Int × (Int × (Int × (Int × (Bool × (Bool × (Bool × Bool))))))) := (0, (0, (2, (0, (false, (false, (true, false)))))))
  let y1 : (Bool × Bool) := (false, false)
  let y2 : (Bool × (Bool × (Bool × Bool))) := (false, (true, y1))
  let y3 : (Int × (Bool × (Bool × (Bool × Bool)))) := (0, y2)
  let y4 : (Int × (Int × (Int × (Int × (Bool × (Bool × (Bool × Bool))))))) := (0, (16, (2, y3)))
  .ret [(0, (1, (182, (false, ((-1), (32, y0)))))), (0, (1, (190, (false, ((-1), (33, y0)))))), (0, (0, (144, (false, ((-1), (34, (0, (8, (0, (0, (false, (false, y1)))))))))))), (243, (1, (111, (false, ((-1), (35, y4)))))), (243, (1, (127, (false, ((-1), (35, (0, (16, (1, y3))))))))), (102, (1, (239, (false, ((-1), (36, y4)))))), (102, (2, (220, (false, ((-1), (37, y4)))))), (102, (2, (221, (false, ((-1), (38, y4)))))), (102, (3, (68, (false, ((-1), (39, (0, (16, (2, (1, y2))))))))))]
noncomputable def fn65 (x : Unit) : (List DForm) := (tree65 x).val
def pre65 (x : Unit) : Prop := (tree65 x).ok
noncomputable def spec65 : Spec := { dom := .unit, cod := (.slice CForm), n := 1, pre := pre65, f := fn65 }
noncomputable def need65 : FuncId → Option Spec
  | _ => none
theorem need65_ok : ∀ f sp, need65 f = some sp → SpecOk env0 f sp := by
  intro f sp h
  unfold need65 at h
  split at h
  · cases h
theorem run65 (W : Cfg) (Q : (List DForm) → Prop) (x : Unit) : run (env need65 (fun _ _ => none)) (fun _ _ _ => none) (finS spec65 Q) W 100000 (startFr 65 Tryd.f65 (bodyOf Tryd.f65) (argsOf .unit x)) [] [] = (tree65 x).wp Q := by kernel_rfl
theorem ok65 : SpecOk env0 65 spec65 := SpecOk.env rfl (fun _ _ h => h) (spec_of_tree (E := (env need65 (fun _ _ => none))) (sp := spec65) (valid _ _) (fun f sp h => SpecOk.env rfl (fun _ _ h => h) (need65_ok f sp h)) (fn := Tryd.f65) (c := (bodyOf Tryd.f65)) (by kernel_rfl) (by kernel_rfl) tree65 run65 (fun _ h => Tr.gives_val h))

/-! ### sundial/sundialref07.Forms -/
noncomputable def tree33 (_x : Unit) : Tr (List DForm) :=
  .need ((0 : Nat) < 8) <|
  .need ((1 : Nat) < 8) <|
  .need ((2 : Nat) < 8) <|
  .need ((3 : Nat) < 8) <|
  .need ((4 : Nat) < 8) <|
  .need ((5 : Nat) < 8) <|
  .need ((6 : Nat) < 8) <|
  .need ((7 : Nat) < 8) <|
  .need (pre63 ()) <|
  let y0 : Nat := (fn63 ()).length
  let y1 : Nat := (8 + y0)
  .ite (ilt ((8 : Nat) : Int) ((y1 : Nat) : Int)) (
    .need ((0 + 8 : Nat) ≤ 8) <|
    .need (((y1 : Nat) * 56 : Nat) ≤ 2 ^ 40) <|
    .need ((y1 : Nat) ≤ 2 ^ 40) <|
    .need (pre64 ()) <|
    .need ((y1 : Nat) = y1) <|
    let y2 : Nat := (fn64 ()).length
    let y3 : Nat := (y1 + y2)
    .need (((y3 : Nat) * 56 : Nat) ≤ 2 ^ 40) <|
    .need ((y3 : Nat) ≤ 2 ^ 40) <|
    .need (pre65 ()) <|
    .need ((y3 : Nat) = y3) <|
    let y4 : Nat := (fn65 ()).length
    let y5 : Nat := (y3 + y4)
    .need (((y5 : Nat) * 56 : Nat) ≤ 2 ^ 40) <|
    .need ((y5 : Nat) ≤ 2 ^ 40) <|
    .need (((0 : Nat) + y5 : Nat) ≤ y5) <|
    let y6 : (Bool × (Bool × Bool)) := (false, (false, false))
    let y7 : (Bool × (Bool × (Bool × Bool))) := (false, y6)
    let y8 : (Int × (Bool × (Bool × (Bool × Bool)))) := (0, y7)
    let y9 : (Bool × (Bool × (Bool × Bool))) := (false, (false, (true, false)))
    let y10 : (Int × (Bool × (Bool × (Bool × Bool)))) := (0, y9)
    let y11 : (List DForm) := [(0, (0, (137, (false, ((-1), (1, (0, (0, (1, y8))))))))), (0, (0, (139, (false, ((-1), (1, (0, (0, (2, y8))))))))), (0, (0, (199, (false, (0, (1, (0, (0, (4, (4, y7)))))))))), (0, (0, (184, (true, ((-1), (1, (0, (8, (7, (8, (true, y6))))))))))), (0, (0, (136, (false, ((-1), (1, (0, (1, (1, y10))))))))), (0, (0, (138, (false, ((-1), (1, (0, (1, (2, y10))))))))), (0, (0, (198, (false, (0, (1, (0, (1, (4, (1, y9)))))))))), (0, (0, (141, (false, ((-1), (2, (0, (0, (2, (0, (false, (false, (false, true)))))))))))))]
    .ret ((((y11 ++ (fn63 ())) ++ (fn64 ())) ++ (fn65 ())).take y5)) (
    .need ((0 + 8 + y0 : Nat) ≤ 8) <|
    .need (pre64 ()) <|
    let y12 : Nat := (fn64 ()).length
    let y13 : Nat := (y1 + y12)
    .ite (ilt ((8 : Nat) : Int) ((y13 : Nat) : Int)) (
      .need ((0 + y1 : Nat) ≤ 8) <|
      .need (((y13 : Nat) * 56 : Nat) ≤ 2 ^ 40) <|
      .need ((y13 : Nat) ≤ 2 ^ 40) <|
      .need (pre65 ()) <|
      .need ((y13 : Nat) = y13) <|
      let y14 : Nat := (fn65 ()).length
      let y15 : Nat := (y13 + y14)
      .need (((y15 : Nat) * 56 : Nat) ≤ 2 ^ 40) <|
      .need ((y15 : Nat) ≤ 2 ^ 40) <|
      .need (((0 : Nat) + y15 : Nat) ≤ y15) <|
      let y16 : (Bool × (Bool × Bool)) := (false, (false, false))
      let y17 : (Bool × (Bool × (Bool × Bool))) := (false, y16)
      let y18 : (Int × (Bool × (Bool × (Bool × Bool)))) := (0, y17)
      let y19 : (Bool × (Bool × (Bool × Bool))) := (false, (false, (true, false)))
      let y20 : (Int × (Bool × (Bool × (Bool × Bool)))) := (0, y19)
      let y21 : (List DForm) := [(0, (0, (137, (false, ((-1), (1, (0, (0, (1, y18))))))))), (0, (0, (139, (false, ((-1), (1, (0, (0, (2, y18))))))))), (0, (0, (199, (false, (0, (1, (0, (0, (4, (4, y17)))))))))), (0, (0, (184, (true, ((-1), (1, (0, (8, (7, (8, (true, y16))))))))))), (0, (0, (136, (false, ((-1), (1, (0, (1, (1, y20))))))))), (0, (0, (138, (false, ((-1), (1, (0, (1, (2, y20))))))))), (0, (0, (198, (false, (0, (1, (0, (1, (4, (1, y19)))))))))), (0, (0, (141, (false, ((-1), (2, (0, (0, (2, (0, (false, (false, (false, true)))))))))))))]
      let y22 : (List DForm) := (spliceL y21 8 (fn63 ()))
      .ret ((((y22.take y1) ++ (fn64 ())) ++ (fn65 ())).take y15)) (
      .need ((0 + y1 + y12 : Nat) ≤ 8) <|
      .need (pre65 ()) <|
      let y23 : Nat := (fn65 ()).length
      let y24 : Nat := (y13 + y23)
      .ite (ilt ((8 : Nat) : Int) ((y24 : Nat) : Int)) (
        .need ((0 + y13 : Nat) ≤ 8) <|
        .need (((y24 : Nat) * 56 : Nat) ≤ 2 ^ 40) <|
        .need ((y24 : Nat) ≤ 2 ^ 40) <|
        .need (((0 : Nat) + y24 : Nat) ≤ y24) <|
        let y25 : (Bool × (Bool × Bool)) := (false, (false, false))
        let y26 : (Bool × (Bool × (Bool × Bool))) := (false, y25)
        let y27 : (Int × (Bool × (Bool × (Bool × Bool)))) := (0, y26)
        let y28 : (Bool × (Bool × (Bool × Bool))) := (false, (false, (true, false)))
        let y29 : (Int × (Bool × (Bool × (Bool × Bool)))) := (0, y28)
        let y30 : (List DForm) := [(0, (0, (137, (false, ((-1), (1, (0, (0, (1, y27))))))))), (0, (0, (139, (false, ((-1), (1, (0, (0, (2, y27))))))))), (0, (0, (199, (false, (0, (1, (0, (0, (4, (4, y26)))))))))), (0, (0, (184, (true, ((-1), (1, (0, (8, (7, (8, (true, y25))))))))))), (0, (0, (136, (false, ((-1), (1, (0, (1, (1, y29))))))))), (0, (0, (138, (false, ((-1), (1, (0, (1, (2, y29))))))))), (0, (0, (198, (false, (0, (1, (0, (1, (4, (1, y28)))))))))), (0, (0, (141, (false, ((-1), (2, (0, (0, (2, (0, (false, (false, (false, true)))))))))))))]
        let y31 : (List DForm) := (spliceL y30 8 (fn63 ()))
        let y32 : (List DForm) := (spliceL y31 (0 + y1) (fn64 ()))
        .ret (((y32.take y13) ++ (fn65 ())).take y24)) (
        .need ((0 + y13 + y23 : Nat) ≤ 8) <|
        .need (((0 : Nat) + y24 : Nat) ≤ 8) <|
        let y33 : (Bool × (Bool × Bool)) := (false, (false, false))
        let y34 : (Bool × (Bool × (Bool × Bool))) := (false, y33)
        let y35 : (Int × (Bool × (Bool × (Bool × Bool)))) := (0, y34)
        let y36 : (Bool × (Bool × (Bool × Bool))) := (false, (false, (true, false)))
        let y37 : (Int × (Bool × (Bool × (Bool × Bool)))) := (0, y36)
        let y38 : (List DForm) := [(0, (0, (137, (false, ((-1), (1, (0, (0, (1, y35))))))))), (0, (0, (139, (false, ((-1), (1, (0, (0, (2, y35))))))))), (0, (0, (199, (false, (0, (1, (0, (0, (4, (4, y34)))))))))), (0, (0, (184, (true, ((-1), (1, (0, (8, (7, (8, (true, y33))))))))))), (0, (0, (136, (false, ((-1), (1, (0, (1, (1, y37))))))))), (0, (0, (138, (false, ((-1), (1, (0, (1, (2, y37))))))))), (0, (0, (198, (false, (0, (1, (0, (1, (4, (1, y36)))))))))), (0, (0, (141, (false, ((-1), (2, (0, (0, (2, (0, (false, (false, (false, true)))))))))))))]
        let y39 : (List DForm) := (spliceL y38 8 (fn63 ()))
        let y40 : (List DForm) := (spliceL y39 (0 + y1) (fn64 ()))
        .ret ((spliceL y40 (0 + y13) (fn65 ())).take y24))))
noncomputable def fn33 (x : Unit) : (List DForm) := (tree33 x).val
def pre33 (x : Unit) : Prop := (tree33 x).ok
noncomputable def spec33 : Spec := { dom := .unit, cod := (.slice CForm), n := 1, pre := pre33, f := fn33 }
noncomputable def need33 : FuncId → Option Spec
  | 63 => some spec63
  | 64 => some spec64
  | 65 => some spec65
  | _ => none
theorem need33_ok : ∀ f sp, need33 f = some sp → SpecOk env0 f sp := by
  intro f sp h
  unfold need33 at h
  split at h
  · cases h; exact ok63
  · cases h; exact ok64
  · cases h; exact ok65
  · cases h
theorem run33 (W : Cfg) (Q : (List DForm) → Prop) (x : Unit) : run (env need33 (fun _ _ => none)) (fun _ _ _ => none) (finS spec33 Q) W 100000 (startFr 33 Tryd.f33 (bodyOf Tryd.f33) (argsOf .unit x)) [] [] = (tree33 x).wp Q := by kernel_rfl
theorem ok33 : SpecOk env0 33 spec33 := SpecOk.env rfl (fun _ _ h => h) (spec_of_tree (E := (env need33 (fun _ _ => none))) (sp := spec33) (valid _ _) (fun f sp h => SpecOk.env rfl (fun _ _ h => h) (need33_ok f sp h)) (fn := Tryd.f33) (c := (bodyOf Tryd.f33)) (by kernel_rfl) (by kernel_rfl) tree33 run33 (fun _ h => Tr.gives_val h))

/-! ### sundial/sundialref07.code -/
noncomputable def tree104 (x : (DForm × Int)) : Tr Bool :=
  let y0 : (Int × (Bool × (Int × (Int × (Int × (Int × (Int × (Int × (Bool × (Bool × (Bool × Bool))))))))))) := x.1.2.2
  .ite y0.2.1 (
    let y1 : Int := y0.1
    .ret (ieq (iand .u8 x.2 248) (iand .u8 y1 248))) (
    let y2 : Int := y0.1
    .ret (ieq x.2 y2))
noncomputable def fn104 (x : (DForm × Int)) : Bool := (tree104 x).val
def pre104 (x : (DForm × Int)) : Prop := (tree104 x).ok
noncomputable def spec104 : Spec := { dom := (.st CForm (.st1 (.int .u8))), cod := .bool, n := 1, pre := pre104, f := fn104 }
noncomputable def need104 : FuncId → Option Spec
  | _ => none
theorem need104_ok : ∀ f sp, need104 f = some sp → SpecOk env0 f sp := by
  intro f sp h
  unfold need104 at h
  split at h
  · cases h
theorem run104 (W : Cfg) (Q : Bool → Prop) (x : (DForm × Int)) : run (env need104 (fun _ _ => none)) (fun _ _ _ => none) (finS spec104 Q) W 100000 (startFr 104 Tryd.f104 (bodyOf Tryd.f104) (argsOf (.st CForm (.st1 (.int .u8))) x)) [] [] = (tree104 x).wp Q := by kernel_rfl
theorem ok104 : SpecOk env0 104 spec104 := SpecOk.env rfl (fun _ _ h => h) (spec_of_tree (E := (env need104 (fun _ _ => none))) (sp := spec104) (valid _ _) (fun f sp h => SpecOk.env rfl (fun _ _ h => h) (need104_ok f sp h)) (fn := Tryd.f104) (c := (bodyOf Tryd.f104)) (by kernel_rfl) (by kernel_rfl) tree104 run104 (fun _ h => Tr.gives_val h))

/-! ### sundial/sundialref07.Fits -/
noncomputable def tree81 (x : (DForm × (Int × (Int × (Int × Int))))) : Tr Bool :=
  .ite ((ieq x.1.1 x.2.1) == true) (
    let y0 : (Int × (Int × (Bool × (Int × (Int × (Int × (Int × (Int × (Int × (Bool × (Bool × (Bool × Bool)))))))))))) := x.1.2
    let y1 : (Int × (Int × Int)) := x.2.2
    .ite ((ieq y0.1 y1.1) == true) (
      let y2 : (Int × Int) := y1.2
      let y3 : (DForm × Int) := (x.1, y2.1)
      .need (pre104 y3) <|
      .ite ((fn104 y3) == true) (
        let y4 : Int := y0.2.2.2.1
        .ite ((ieq y4 (-1)) == false) (
          .ret (ieq y4 y2.2)) (
          .ret true)) (
        .ret false)) (
      .ret false)) (
    .ret false)
noncomputable def fn81 (x : (DForm × (Int × (Int × (Int × Int))))) : Bool := (tree81 x).val
def pre81 (x : (DForm × (Int × (Int × (Int × Int))))) : Prop := (tree81 x).ok
noncomputable def spec81 : Spec := { dom := (.st CForm (.st (.int .u8) (.st (.int .u8) (.st (.int .u8) (.st1 (.int .i64)))))), cod := .bool, n := 1, pre := pre81, f := fn81 }
noncomputable def need81 : FuncId → Option Spec
  | 104 => some spec104
  | _ => none
theorem need81_ok : ∀ f sp, need81 f = some sp → SpecOk env0 f sp := by
  intro f sp h
  unfold need81 at h
  split at h
  · cases h; exact ok104
  · cases h
theorem run81 (W : Cfg) (Q : Bool → Prop) (x : (DForm × (Int × (Int × (Int × Int))))) : run (env need81 (fun _ _ => none)) (fun _ _ _ => none) (finS spec81 Q) W 100000 (startFr 81 Tryd.f81 (bodyOf Tryd.f81) (argsOf (.st CForm (.st (.int .u8) (.st (.int .u8) (.st (.int .u8) (.st1 (.int .i64)))))) x)) [] [] = (tree81 x).wp Q := by kernel_rfl
theorem ok81 : SpecOk env0 81 spec81 := SpecOk.env rfl (fun _ _ h => h) (spec_of_tree (E := (env need81 (fun _ _ => none))) (sp := spec81) (valid _ _) (fun f sp h => SpecOk.env rfl (fun _ _ h => h) (need81_ok f sp h)) (fn := Tryd.f81) (c := (bodyOf Tryd.f81)) (by kernel_rfl) (by kernel_rfl) tree81 run81 (fun _ h => Tr.gives_val h))

/-! ### sundial/sundialref07.Find -/
inductive J48 where
  | h0 (v4 : (List DForm)) (v5 : Int)
noncomputable def tree48 (_x : (Int × (Int × (Int × Int)))) : Tr (J48 ⊕ (DForm × Bool)) :=
  .need (pre33 ()) <|
  .ret (.inl (.h0 (fn33 ()) 0))
noncomputable def step48 (x : (Int × (Int × (Int × Int)))) : J48 → Tr (J48 ⊕ (DForm × Bool))
  | .h0 v4 v5 =>
    .ite (ilt v5 (v4.length : Int)) (
      .need ((0 : Int) ≤ v5) <|
      .need (v5 < (v4.length : Int)) <|
      let y0 : DForm := (rdc CForm v4 (v5).toNat)
      let y1 : (DForm × (Int × (Int × (Int × Int)))) := (y0, x)
      .need (pre81 y1) <|
      .ite (fn81 y1) (
        .need ((0 : Int) ≤ v5) <|
        .need (v5 < (v4.length : Int)) <|
        .ret (.inr (y0, true))) (
        .ret (.inl (.h0 v4 (iadd .i64 v5 1))))) (
      .ret (.inr ((0, (0, (0, (false, (0, (0, (0, (0, (0, (0, (false, (false, (false, false))))))))))))), false)))
noncomputable def head48 (x : (Int × (Int × (Int × Int)))) : J48 → Head
  | .h0 v4 v5 =>
    { fr := { id := 48, kind := .top, T := [(.int .u8 x.1), (.int .u8 x.2.1), (.int .u8 x.2.2.1), (.int .i64 x.2.2.2)] ++ List.replicate 4 .any ++ [(.ptr 0 []), .any, (.fsl CForm v4), (.int .i64 v5)] ++ List.replicate 21 .any, items := [.lp (subc [1, 1, 0, 1, 0, 0] (bodyOf Tryd.f48)), .blk 0, .code (subc [1, 1, 1] (bodyOf Tryd.f48))], D := [], base := 0 },
      stk := [],
      H := [.cell true 51 (.agg [1, 1, 1, 1, 1, 1, 1, 1, 1, 1, 1, 1, 1, 1] [(.int .u8 0), (.int .u8 0), (.int .u8 0), (.bool false), (.int .i64 0), (.int .u8 0), (.int .u8 0), (.int .i64 0), (.int .u8 0), (.int .i64 0), (.bool false), (.bool false), (.bool false), (.bool false)])] }
noncomputable def stop48 : FuncId → Nat → Nat → Option Cut
  | 48, 0, 0 => some { tmps := [0, 1, 2, 3, 8, 10, 11], loops := [], dead := [], stk := [] }
  | _, _, _ => none
noncomputable def fn48 (x : (Int × (Int × (Int × Int)))) : (DForm × Bool) := endVal (TC.dflt (.st CForm (.st1 .bool))) (step48 x) (tree48 x)
def pre48 (x : (Int × (Int × (Int × Int)))) : Prop := ∃ r, Ends (step48 x) r (tree48 x)
noncomputable def spec48 : Spec := { dom := (.st (.int .u8) (.st (.int .u8) (.st (.int .u8) (.st1 (.int .i64))))), cod := (.st CForm (.st1 .bool)), n := 2, pre := pre48, f := fn48 }
noncomputable def need48 : FuncId → Option Spec
  | 33 => some spec33
  | 81 => some spec81
  | _ => none
theorem need48_ok : ∀ f sp, need48 f = some sp → SpecOk env0 f sp := by
  intro f sp h
  unfold need48 at h
  split at h
  · cases h; exact ok33
  · cases h; exact ok81
  · cases h
theorem run48 (W : Cfg) (Q : (DForm × Bool) → Prop) (x : (Int × (Int × (Int × Int)))) : run (env need48 (fun _ _ => none)) stop48 (finS spec48 Q) W 100000 (startFr 48 Tryd.f48 (bodyOf Tryd.f48) (argsOf (.st (.int .u8) (.st (.int .u8) (.st (.int .u8) (.st1 (.int .i64))))) x)) [] [] = (tree48 x).wp (kont W Q (head48 x)) := by kernel_rfl
theorem run48h0 (W : Cfg) (Q : (DForm × Bool) → Prop) (x : (Int × (Int × (Int × Int)))) (v4 : (List DForm)) (v5 : Int) : run (env need48 (fun _ _ => none)) stop48 (finS spec48 Q) W 100000 (head48 x (.h0 v4 v5)).fr.enter (head48 x (.h0 v4 v5)).stk (head48 x (.h0 v4 v5)).H = (step48 x (.h0 v4 v5)).wp (kont W Q (head48 x)) := by kernel_rfl
theorem runs48 (W : Cfg) (Q : (DForm × Bool) → Prop) (x : (Int × (Int × (Int × Int)))) : ∀ j : J48, run (env need48 (fun _ _ => none)) stop48 (finS spec48 Q) W 100000 (head48 x j).fr.enter (head48 x j).stk (head48 x j).H = (step48 x j).wp (kont W Q (head48 x))
  | .h0 v4 v5 => run48h0 W Q x v4 v5
theorem ok48 : SpecOk env0 48 spec48 := SpecOk.env rfl (fun _ _ h => h) (spec_of_trees (E := (env need48 (fun _ _ => none))) (sp := spec48) (valid _ _) (fun f sp h => SpecOk.env rfl (fun _ _ h => h) (need48_ok f sp h)) (fn := Tryd.f48) (c := (bodyOf Tryd.f48)) (by kernel_rfl) (by kernel_rfl) tree48 step48 head48 run48 runs48 (fun _ h => endVal_ends h))

/-! ### sundial/sundialref09.bare -/
noncomputable def tree49 (x : Int) : Tr Bool :=
  .ite ((ieq x 0) == false) (
    .ite ((ieq x 6) == false) (
      .ite ((ieq x 7) == false) (
        .ret (ieq x 8)) (
        .ret true)) (
      .ret true)) (
    .ret true)
noncomputable def fn49 (x : Int) : Bool := (tree49 x).val
def pre49 (x : Int) : Prop := (tree49 x).ok
noncomputable def spec49 : Spec := { dom := (.st1 (.int .u8)), cod := .bool, n := 1, pre := pre49, f := fn49 }
noncomputable def need49 : FuncId → Option Spec
  | _ => none
theorem need49_ok : ∀ f sp, need49 f = some sp → SpecOk env0 f sp := by
  intro f sp h
  unfold need49 at h
  split at h
  · cases h
theorem run49 (W : Cfg) (Q : Bool → Prop) (x : Int) : run (env need49 (fun _ _ => none)) (fun _ _ _ => none) (finS spec49 Q) W 100000 (startFr 49 Tryd.f49 (bodyOf Tryd.f49) (argsOf (.st1 (.int .u8)) x)) [] [] = (tree49 x).wp Q := by kernel_rfl
theorem ok49 : SpecOk env0 49 spec49 := SpecOk.env rfl (fun _ _ h => h) (spec_of_tree (E := (env need49 (fun _ _ => none))) (sp := spec49) (valid _ _) (fun f sp h => SpecOk.env rfl (fun _ _ h => h) (need49_ok f sp h)) (fn := Tryd.f49) (c := (bodyOf Tryd.f49)) (by kernel_rfl) (by kernel_rfl) tree49 run49 (fun _ h => Tr.gives_val h))

/-! ### sundial/sundialref08.Mem -/
noncomputable def tree105 (x : (Int × Int)) : Tr DOperand :=
  .ret (2, (0, ((imax x.1 (-1)), ((-1), (1, (x.2, (false, 0)))))))
noncomputable def fn105 (x : (Int × Int)) : DOperand := (tree105 x).val
def pre105 (x : (Int × Int)) : Prop := (tree105 x).ok
noncomputable def spec105 : Spec := { dom := (.st (.int .i64) (.st1 (.int .i64))), cod := COperand, n := 1, pre := pre105, f := fn105 }
noncomputable def need105 : FuncId → Option Spec
  | _ => none
theorem need105_ok : ∀ f sp, need105 f = some sp → SpecOk env0 f sp := by
  intro f sp h
  unfold need105 at h
  split at h
  · cases h
theorem run105 (W : Cfg) (Q : DOperand → Prop) (x : (Int × Int)) : run (env need105 (fun _ _ => none)) (fun _ _ _ => none) (finS spec105 Q) W 100000 (startFr 105 Tryd.f105 (bodyOf Tryd.f105) (argsOf (.st (.int .i64) (.st1 (.int .i64))) x)) [] [] = (tree105 x).wp Q := by kernel_rfl
theorem ok105 : SpecOk env0 105 spec105 := SpecOk.env rfl (fun _ _ h => h) (spec_of_tree (E := (env need105 (fun _ _ => none))) (sp := spec105) (valid _ _) (fun f sp h => SpecOk.env rfl (fun _ _ h => h) (need105_ok f sp h)) (fn := Tryd.f105) (c := (bodyOf Tryd.f105)) (by kernel_rfl) (by kernel_rfl) tree105 run105 (fun _ h => Tr.gives_val h))

/-! ### sundial/sundialref08.number -/
inductive J106 where
  | h0 (v2 : Int) (v3 : Int)
noncomputable def tree106 (x : ((List Int) × Int)) : Tr (J106 ⊕ (Int × Bool)) :=
  .ite (ilt (x.1.length : Int) x.2) (
    .ret (.inr (0, false))) (
    .ite (ieq x.2 1) (
      .need ((0 : Int) ≤ 0) <|
      .need (0 < (x.1.length : Int)) <|
      .ret (.inr ((iconv .i64 (iconv .i8 (rdc (.int .u8) x.1 0))), true))) (
      .ret (.inl (.h0 0 0))))
noncomputable def step106 (x : ((List Int) × Int)) : J106 → Tr (J106 ⊕ (Int × Bool))
  | .h0 v2 v3 =>
    .ite (ilt v3 x.2) (
      .need ((0 : Int) ≤ v3) <|
      .need (v3 < (x.1.length : Int)) <|
      let y0 : Int := (iconv .u64 (imul .i64 8 v3))
      .need ((0 : Int) ≤ y0) <|
      .ret (.inl (.h0 (ior .u32 v2 (ishl .u32 (iconv .u32 (rdc (.int .u8) x.1 (v3).toNat)) y0)) (iadd .i64 v3 1)))) (
      .ret (.inr ((iconv .i64 (iconv .i32 v2)), true)))
noncomputable def head106 (x : ((List Int) × Int)) : J106 → Head
  | .h0 v2 v3 =>
    { fr := { id := 106, kind := .top, T := [(.fsl (.int .u8) x.1), (.int .i64 x.2)] ++ List.replicate 4 .any ++ [(.int .u32 v2), (.int .i64 v3)] ++ List.replicate 30 .any, items := [.lp (subc [1, 1, 1, 1, 0, 1, 0, 0] (bodyOf Tryd.f106)), .blk 0, .code (subc [1, 1, 1, 1, 1] (bodyOf Tryd.f106))], D := [], base := 0 },
      stk := [],
      H := [] }
noncomputable def stop106 : FuncId → Nat → Nat → Option Cut
  | 106, 0, 0 => some { tmps := [0, 1, 6, 7], loops := [], dead := [], stk := [] }
  | _, _, _ => none
noncomputable def fn106 (x : ((List Int) × Int)) : (Int × Bool) := endVal (TC.dflt (.st (.int .i64) (.st1 .bool))) (step106 x) (tree106 x)
def pre106 (x : ((List Int) × Int)) : Prop := ∃ r, Ends (step106 x) r (tree106 x)
noncomputable def spec106 : Spec := { dom := (.st (.slice (.int .u8)) (.st1 (.int .i64))), cod := (.st (.int .i64) (.st1 .bool)), n := 2, pre := pre106, f := fn106 }
noncomputable def need106 : FuncId → Option Spec
  | _ => none
theorem need106_ok : ∀ f sp, need106 f = some sp → SpecOk env0 f sp := by
  intro f sp h
  unfold need106 at h
  split at h
  · cases h
theorem run106 (W : Cfg) (Q : (Int × Bool) → Prop) (x : ((List Int) × Int)) : run (env need106 (fun _ _ => none)) stop106 (finS spec106 Q) W 100000 (startFr 106 Tryd.f106 (bodyOf Tryd.f106) (argsOf (.st (.slice (.int .u8)) (.st1 (.int .i64))) x)) [] [] = (tree106 x).wp (kont W Q (head106 x)) := by kernel_rfl
theorem run106h0 (W : Cfg) (Q : (Int × Bool) → Prop) (x : ((List Int) × Int)) (v2 : Int) (v3 : Int) : run (env need106 (fun _ _ => none)) stop106 (finS spec106 Q) W 100000 (head106 x (.h0 v2 v3)).fr.enter (head106 x (.h0 v2 v3)).stk (head106 x (.h0 v2 v3)).H = (step106 x (.h0 v2 v3)).wp (kont W Q (head106 x)) := by kernel_rfl
theorem runs106 (W : Cfg) (Q : (Int × Bool) → Prop) (x : ((List Int) × Int)) : ∀ j : J106, run (env need106 (fun _ _ => none)) stop106 (finS spec106 Q) W 100000 (head106 x j).fr.enter (head106 x j).stk (head106 x j).H = (step106 x j).wp (kont W Q (head106 x))
  | .h0 v2 v3 => run106h0 W Q x v2 v3
theorem ok106 : SpecOk env0 106 spec106 := SpecOk.env rfl (fun _ _ h => h) (spec_of_trees (E := (env need106 (fun _ _ => none))) (sp := spec106) (valid _ _) (fun f sp h => SpecOk.env rfl (fun _ _ h => h) (need106_ok f sp h)) (fn := Tryd.f106) (c := (bodyOf Tryd.f106)) (by kernel_rfl) (by kernel_rfl) tree106 step106 head106 run106 runs106 (fun _ h => endVal_ends h))

/-! ### sundial/sundialref08.Take -/
inductive J82 where
  | h0
  | h1 (v2 : Int) (v3 : Int) (v4 : Int)
  | h2 (v2 : Int) (v3 : Int) (v4 : Int) (v6 : Int) (v15 : DOperand)
  | h3 (v2 : Int) (v3 : Int) (v4 : Int) (v6 : Int) (v15 : DOperand)
  | h4 (v2 : Int) (v3 : Int) (v4 : Int) (v13 : DOperand)
  | h5 (v1 : Int) (v2 : Int) (v3 : Int) (v12 : DOperand)
  | h6 (v1 : Int) (v2 : Int) (v4 : Int) (v13 : DOperand)
  | h7 (v0 : Int) (v1 : Int) (v2 : Int) (v3 : Int) (v12 : DOperand)
  | h8 (v0 : Int) (v1 : Int) (v2 : Int) (v11 : DOperand)
noncomputable def tree82 (x : ((List Int) × Int)) : Tr (J82 ⊕ (Int × (DOperand × (Int × Int)))) :=
  .ite (ieq (x.1.length : Int) 0) (
    .ret (.inr (0, ((0, (0, (0, (0, (0, (0, (false, 0))))))), (0, 80))))) (
    .ret (.inl (.h0)))
noncomputable def step82 (x : ((List Int) × Int)) : J82 → Tr (J82 ⊕ (Int × (DOperand × (Int × Int))))
  | .h0 =>
    .need ((0 : Int) ≤ 0) <|
    .need (0 < (x.1.length : Int)) <|
    .need ((0 : Int) ≤ 6) <|
    .need ((0 : Int) ≤ 0) <|
    .need (0 < (x.1.length : Int)) <|
    .need ((0 : Int) ≤ 0) <|
    .need (0 < (x.1.length : Int)) <|
    .need ((0 : Int) ≤ 3) <|
    .need ((0 : Int) ≤ 2) <|
    let y0 : Int := (rdc (.int .u8) x.1 0)
    let y1 : Int := (ishr .u8 y0 6)
    .ite (ieq y1 3) (
      let y2 : Int := (iconv .i64 (iand .u8 y0 7))
      let y3 : Int := (iadd .i64 y2 (imul .i64 (iconv .i64 (iand .u8 x.2 1)) 8))
      .need (pre35 y3) <|
      let y4 : Int := (iadd .i64 (iconv .i64 (iand .u8 (ishr .u8 y0 3) 7)) (imul .i64 (iconv .i64 (iand .u8 (ishr .u8 x.2 2) 1)) 8))
      .ret (.inr (y4, ((fn35 y3), (1, 0))))) (
      let y5 : Int := (iconv .i64 (iand .u8 y0 7))
      let y6 : Int := (iadd .i64 (iconv .i64 (iand .u8 (ishr .u8 y0 3) 7)) (imul .i64 (iconv .i64 (iand .u8 (ishr .u8 x.2 2) 1)) 8))
      .ret (.inl (.h1 y1 y5 y6)))
  | .h1 v2 v3 v4 =>
    let y0 : (Int × Int) := ((iadd .i64 v3 (imul .i64 (iconv .i64 (iand .u8 x.2 1)) 8)), 0)
    .need (pre105 y0) <|
    .ite (ieq v2 1) (
      let y1 : DOperand := (fn105 y0)
      .ret (.inl (.h2 v2 v3 v4 1 y1))) (
      let y2 : DOperand := (fn105 y0)
      .ret (.inl (.h2 v2 v3 v4 0 y2)))
  | .h2 v2 v3 v4 v6 v15 =>
    .ite (ieq v2 2) (
      .ret (.inl (.h3 v2 v3 v4 4 v15))) (
      .ret (.inl (.h3 v2 v3 v4 v6 v15)))
  | .h3 v2 v3 v4 v6 v15 =>
    .ite (ieq v3 4) (
      .ite (ilt (x.1.length : Int) 2) (
        .ret (.inr (0, ((0, (0, (0, (0, (0, (0, (false, 0))))))), (0, 80))))) (
        .ret (.inl (.h4 v2 v4 v6 v15)))) (
      .ite ((ieq v3 5) == true) (
        .ite (ieq v2 0) (
          let y0 : (Int × (Int × (Int × (Bool × Int)))) := v15.2.2.2
          let y1 : (Int × (Int × (Bool × Int))) := y0.2
          let y2 : (Int × (Bool × Int)) := y1.2
          .ret (.inl (.h5 v4 1 4 (v15.1, (v15.2.1, ((-1), (y0.1, (y1.1, (y2.1, (true, y2.2.2)))))))))) (
          .ret (.inl (.h5 v4 1 v6 v15)))) (
        .ret (.inl (.h5 v4 1 v6 v15))))
  | .h4 v2 v3 v4 v13 =>
    .need ((0 : Int) ≤ 1) <|
    .need (1 < (x.1.length : Int)) <|
    .need ((0 : Int) ≤ 1) <|
    .need (1 < (x.1.length : Int)) <|
    .need ((0 : Int) ≤ 3) <|
    .need ((0 : Int) ≤ 1) <|
    let y0 : Int := (rdc (.int .u8) x.1 1)
    let y1 : Int := (iadd .i64 (iconv .i64 (iand .u8 (ishr .u8 y0 3) 7)) (imul .i64 (iconv .i64 (iand .u8 (ishr .u8 x.2 1) 1)) 8))
    .ite (ine y1 4) (
      .need ((0 : Int) ≤ 1) <|
      .need (1 < (x.1.length : Int)) <|
      .need ((0 : Int) ≤ 6) <|
      let y2 : Int := (iconv .u64 (ishr .u8 y0 6))
      .need ((0 : Int) ≤ y2) <|
      let y3 : Int := v13.2.1
      let y4 : Int := (iadd .i64 (iconv .i64 (iand .u8 y0 7)) (imul .i64 (iconv .i64 (iand .u8 x.2 1)) 8))
      let y5 : (Int × (Int × (Int × (Bool × Int)))) := v13.2.2.2
      .ret (.inl (.h6 v2 v3 v4 (v13.1, (y3, (y4, (y1, ((ishl .i64 1 y2), y5.2.2)))))))) (
      let y6 : Int := v13.2.1
      let y7 : Int := (iadd .i64 (iconv .i64 (iand .u8 y0 7)) (imul .i64 (iconv .i64 (iand .u8 x.2 1)) 8))
      let y8 : (Int × (Int × (Int × (Bool × Int)))) := v13.2.2.2
      .ret (.inl (.h6 v2 v3 v4 (v13.1, (y6, (y7, y8))))))
  | .h5 v1 v2 v3 v12 =>
    .ite (ilt 0 v3) (
      .need ((0 : Int) ≤ v2) <|
      .need (((v2).toNat : Nat) ≤ x.1.length) <|
      let y0 : ((List Int) × Int) := ((x.1.drop (v2).toNat), v3)
      .need (pre106 y0) <|
      let y1 : (Int × Bool) := (fn106 y0)
      .ite (!y1.2) (
        .ret (.inr (0, ((0, (0, (0, (0, (0, (0, (false, 0))))))), (0, 80))))) (
        .ret (.inl (.h7 v1 v2 v3 y1.1 v12)))) (
      .ret (.inl (.h8 v1 v2 v3 v12)))
  | .h6 v1 v2 v4 v13 =>
    .need ((0 : Int) ≤ 1) <|
    .need (1 < (x.1.length : Int)) <|
    .ite ((ieq (iand .u8 (rdc (.int .u8) x.1 1) 7) 5) == true) (
      .ite (ieq v1 0) (
        .ret (.inl (.h5 v2 2 4 (v13.1, (v13.2.1, ((-1), v13.2.2.2)))))) (
        .ret (.inl (.h5 v2 2 v4 v13)))) (
      .ret (.inl (.h5 v2 2 v4 v13)))
  | .h7 v0 v1 v2 v3 v12 =>
    let y0 : (Int × (Int × (Int × (Int × (Bool × Int))))) := v12.2.2
    let y1 : (Int × (Int × (Int × (Bool × Int)))) := y0.2
    let y2 : (Int × (Int × (Bool × Int))) := y1.2
    .ret (.inl (.h8 v0 v1 v2 (v12.1, (v12.2.1, (y0.1, (y1.1, (y2.1, (v3, y2.2.2))))))))
  | .h8 v0 v1 v2 v11 =>
    .ret (.inr (v0, (v11, ((iadd .i64 v1 v2), 0))))
noncomputable def head82 (x : ((List Int) × Int)) : J82 → Head
  | .h0 =>
    { fr := { id := 82, kind := .top, T := [(.fsl (.int .u8) x.1), (.int .u8 x.2), .any, .any, .any, (.ptr 0 [])] ++ List.replicate 137 .any, items := [.code (subc [1, 1, 0] (bodyOf Tryd.f82)), .code (subc [1, 1, 1] (bodyOf Tryd.f82))], D := [], base := 0 },
      stk := [],
      H := [.cell true 23 (.agg [1, 1, 1, 1, 1, 1, 1, 1] [(.int .u8 0), (.int .i64 0), (.int .i64 0), (.int .i64 0), (.int .i64 0), (.int .i64 0), (.bool false), (.int .i64 0)])] }
  | .h1 v2 v3 v4 =>
    { fr := { id := 82, kind := .top, T := [(.fsl (.int .u8) x.1), (.int .u8 x.2), .any, .any, .any, (.ptr 0 []), .any, .any, (.int .u8 v2), (.int .i64 v3), (.int .i64 v4)] ++ List.replicate 132 .any, items := [.code (subc [1, 1, 1, 1, 1, 0] (bodyOf Tryd.f82)), .code (subc [1, 1, 1, 1, 1, 1] (bodyOf Tryd.f82))], D := [], base := 0 },
      stk := [],
      H := [.cell true 23 (.agg [1, 1, 1, 1, 1, 1, 1, 1] [(.int .u8 0), (.int .i64 0), (.int .i64 0), (.int .i64 0), (.int .i64 0), (.int .i64 0), (.bool false), (.int .i64 0)])] }
  | .h2 v2 v3 v4 v6 v15 =>
    { fr := { id := 82, kind := .top, T := [(.fsl (.int .u8) x.1), (.int .u8 x.2), .any, .any, .any, (.ptr 0 []), .any, .any, (.int .u8 v2), (.int .i64 v3), (.int .i64 v4), (.ptr 1 []), (.int .i64 1), (.int .i64 v6)] ++ List.replicate 129 .any, items := [.code (subc [1, 1, 1, 1, 1, 1, 1, 1, 0, 0] (bodyOf Tryd.f82)), .code (subc [1, 1, 1, 1, 1, 1, 1, 1, 0, 1] (bodyOf Tryd.f82)), .code (subc [1, 1, 1, 1, 1, 1, 1, 1, 1] (bodyOf Tryd.f82))], D := [], base := 0 },
      stk := [],
      H := [.cell true 23 (.agg [1, 1, 1, 1, 1, 1, 1, 1] [(.int .u8 0), (.int .i64 0), (.int .i64 0), (.int .i64 0), (.int .i64 0), (.int .i64 0), (.bool false), (.int .i64 0)]), .cell true 23 (.agg [1, 1, 1, 1, 1, 1, 1, 1] [(.int .u8 v15.1), (.int .i64 v15.2.1), (.int .i64 v15.2.2.1), (.int .i64 v15.2.2.2.1), (.int .i64 v15.2.2.2.2.1), (.int .i64 v15.2.2.2.2.2.1), (.bool v15.2.2.2.2.2.2.1), (.int .i64 v15.2.2.2.2.2.2.2)])] }
  | .h3 v2 v3 v4 v6 v15 =>
    { fr := { id := 82, kind := .top, T := [(.fsl (.int .u8) x.1), (.int .u8 x.2), .any, .any, .any, (.ptr 0 []), .any, .any, (.int .u8 v2), (.int .i64 v3), (.int .i64 v4), (.ptr 1 []), (.int .i64 1), (.int .i64 v6)] ++ List.replicate 129 .any, items := [.code (subc [1, 1, 1, 1, 1, 1, 1, 1, 1, 0, 0, 0] (bodyOf Tryd.f82)), .code (subc [1, 1, 1, 1, 1, 1, 1, 1, 1, 0, 0, 1] (bodyOf Tryd.f82)), .blk 0, .code (subc [1, 1, 1, 1, 1, 1, 1, 1, 1, 1] (bodyOf Tryd.f82))], D := [], base := 0 },
      stk := [],
      H := [.cell true 23 (.agg [1, 1, 1, 1, 1, 1, 1, 1] [(.int .u8 0), (.int .i64 0), (.int .i64 0), (.int .i64 0), (.int .i64 0), (.int .i64 0), (.bool false), (.int .i64 0)]), .cell true 23 (.agg [1, 1, 1, 1, 1, 1, 1, 1] [(.int .u8 v15.1), (.int .i64 v15.2.1), (.int .i64 v15.2.2.1), (.int .i64 v15.2.2.2.1), (.int .i64 v15.2.2.2.2.1), (.int .i64 v15.2.2.2.2.2.1), (.bool v15.2.2.2.2.2.2.1), (.int .i64 v15.2.2.2.2.2.2.2)])] }
  | .h4 v2 v3 v4 v13 =>
    { fr := { id := 82, kind := .top, T := [(.fsl (.int .u8) x.1), (.int .u8 x.2), .any, .any, .any, (.ptr 0 []), .any, .any, (.int .u8 v2), .any, (.int .i64 v3), (.ptr 1 []), .any, (.int .i64 v4)] ++ List.replicate 129 .any, items := [.code (subc [1, 1, 1, 1, 1, 1, 1, 1, 1, 0, 0, 1, 0, 1, 0] (bodyOf Tryd.f82)), .code (subc [1, 1, 1, 1, 1, 1, 1, 1, 1, 0, 0, 1, 0, 1, 1] (bodyOf Tryd.f82)), .blk 0, .code (subc [1, 1, 1, 1, 1, 1, 1, 1, 1, 1] (bodyOf Tryd.f82))], D := [], base := 0 },
      stk := [],
      H := [.cell true 23 (.agg [1, 1, 1, 1, 1, 1, 1, 1] [(.int .u8 0), (.int .i64 0), (.int .i64 0), (.int .i64 0), (.int .i64 0), (.int .i64 0), (.bool false), (.int .i64 0)]), .cell true 23 (.agg [1, 1, 1, 1, 1, 1, 1, 1] [(.int .u8 v13.1), (.int .i64 v13.2.1), (.int .i64 v13.2.2.1), (.int .i64 v13.2.2.2.1), (.int .i64 v13.2.2.2.2.1), (.int .i64 v13.2.2.2.2.2.1), (.bool v13.2.2.2.2.2.2.1), (.int .i64 v13.2.2.2.2.2.2.2)])] }
  | .h5 v1 v2 v3 v12 =>
    { fr := { id := 82, kind := .top, T := [(.fsl (.int .u8) x.1)] ++ List.replicate 4 .any ++ [(.ptr 0 [])] ++ List.replicate 4 .any ++ [(.int .i64 v1), (.ptr 1 []), (.int .i64 v2), (.int .i64 v3)] ++ List.replicate 129 .any, items := [.code (subc [1, 1, 1, 1, 1, 1, 1, 1, 1, 1, 0, 0] (bodyOf Tryd.f82)), .code (subc [1, 1, 1, 1, 1, 1, 1, 1, 1, 1, 0, 1] (bodyOf Tryd.f82)), .code (subc [1, 1, 1, 1, 1, 1, 1, 1, 1, 1, 1] (bodyOf Tryd.f82))], D := [], base := 0 },
      stk := [],
      H := [.cell true 23 (.agg [1, 1, 1, 1, 1, 1, 1, 1] [(.int .u8 0), (.int .i64 0), (.int .i64 0), (.int .i64 0), (.int .i64 0), (.int .i64 0), (.bool false), (.int .i64 0)]), .cell true 23 (.agg [1, 1, 1, 1, 1, 1, 1, 1] [(.int .u8 v12.1), (.int .i64 v12.2.1), (.int .i64 v12.2.2.1), (.int .i64 v12.2.2.2.1), (.int .i64 v12.2.2.2.2.1), (.int .i64 v12.2.2.2.2.2.1), (.bool v12.2.2.2.2.2.2.1), (.int .i64 v12.2.2.2.2.2.2.2)])] }
  | .h6 v1 v2 v4 v13 =>
    { fr := { id := 82, kind := .top, T := [(.fsl (.int .u8) x.1)] ++ List.replicate 4 .any ++ [(.ptr 0 []), .any, .any, (.int .u8 v1), .any, (.int .i64 v2), (.ptr 1 []), (.int .i64 2), (.int .i64 v4)] ++ List.replicate 129 .any, items := [.code (subc [1, 1, 1, 1, 1, 1, 1, 1, 1, 0, 0, 1, 0, 1, 1, 1, 1, 1, 0] (bodyOf Tryd.f82)), .code (subc [1, 1, 1, 1, 1, 1, 1, 1, 1, 0, 0, 1, 0, 1, 1, 1, 1, 1, 1] (bodyOf Tryd.f82)), .blk 0, .code (subc [1, 1, 1, 1, 1, 1, 1, 1, 1, 1] (bodyOf Tryd.f82))], D := [], base := 0 },
      stk := [],
      H := [.cell true 23 (.agg [1, 1, 1, 1, 1, 1, 1, 1] [(.int .u8 0), (.int .i64 0), (.int .i64 0), (.int .i64 0), (.int .i64 0), (.int .i64 0), (.bool false), (.int .i64 0)]), .cell true 23 (.agg [1, 1, 1, 1, 1, 1, 1, 1] [(.int .u8 v13.1), (.int .i64 v13.2.1), (.int .i64 v13.2.2.1), (.int .i64 v13.2.2.2.1), (.int .i64 v13.2.2.2.2.1), (.int .i64 v13.2.2.2.2.2.1), (.bool v13.2.2.2.2.2.2.1), (.int .i64 v13.2.2.2.2.2.2.2)])] }
  | .h7 v0 v1 v2 v3 v12 =>
    { fr := { id := 82, kind := .top, T := List.replicate 5 .any ++ [(.ptr 0 [])] ++ List.replicate 4 .any ++ [(.int .i64 v0), (.ptr 1 []), (.int .i64 v1), (.int .i64 v2), .any, (.int .i64 v3)] ++ List.replicate 127 .any, items := [.code (subc [1, 1, 1, 1, 1, 1, 1, 1, 1, 1, 0, 1, 0, 1, 1] (bodyOf Tryd.f82)), .code (subc [1, 1, 1, 1, 1, 1, 1, 1, 1, 1, 1] (bodyOf Tryd.f82))], D := [], base := 0 },
      stk := [],
      H := [.cell true 23 (.agg [1, 1, 1, 1, 1, 1, 1, 1] [(.int .u8 0), (.int .i64 0), (.int .i64 0), (.int .i64 0), (.int .i64 0), (.int .i64 0), (.bool false), (.int .i64 0)]), .cell true 23 (.agg [1, 1, 1, 1, 1, 1, 1, 1] [(.int .u8 v12.1), (.int .i64 v12.2.1), (.int .i64 v12.2.2.1), (.int .i64 v12.2.2.2.1), (.int .i64 v12.2.2.2.2.1), (.int .i64 v12.2.2.2.2.2.1), (.bool v12.2.2.2.2.2.2.1), (.int .i64 v12.2.2.2.2.2.2.2)])] }
  | .h8 v0 v1 v2 v11 =>
    { fr := { id := 82, kind := .top, T := List.replicate 5 .any ++ [(.ptr 0 [])] ++ List.replicate 4 .any ++ [(.int .i64 v0), (.ptr 1 []), (.int .i64 v1), (.int .i64 v2)] ++ List.replicate 129 .any, items := [.code (subc [1, 1, 1, 1, 1, 1, 1, 1, 1, 1, 1, 0] (bodyOf Tryd.f82)), .code (subc [1, 1, 1, 1, 1, 1, 1, 1, 1, 1, 1, 1] (bodyOf Tryd.f82))], D := [], base := 0 },
      stk := [],
      H := [.cell true 23 (.agg [1, 1, 1, 1, 1, 1, 1, 1] [(.int .u8 0), (.int .i64 0), (.int .i64 0), (.int .i64 0), (.int .i64 0), (.int .i64 0), (.bool false), (.int .i64 0)]), .cell true 23 (.agg [1, 1, 1, 1, 1, 1, 1, 1] [(.int .u8 v11.1), (.int .i64 v11.2.1), (.int .i64 v11.2.2.1), (.int .i64 v11.2.2.2.1), (.int .i64 v11.2.2.2.2.1), (.int .i64 v11.2.2.2.2.2.1), (.bool v11.2.2.2.2.2.2.1), (.int .i64 v11.2.2.2.2.2.2.2)])] }
noncomputable def stop82 : FuncId → Nat → Nat → Option Cut
  | 82, 7, 0 => some { tmps := [0, 1, 5], loops := [], dead := [], stk := [] }
  | 82, 15, 0 => some { tmps := [0, 1, 5, 8, 9, 10], loops := [], dead := [], stk := [] }
  | 82, 23, 0 => some { tmps := [0, 1, 5, 8, 9, 10, 11, 12, 13], loops := [], dead := [], stk := [] }
  | 82, 27, 0 => some { tmps := [0, 1, 5, 8, 9, 10, 11, 12, 13], loops := [], dead := [], stk := [] }
  | 82, 33, 0 => some { tmps := [0, 1, 5, 8, 10, 11, 13], loops := [], dead := [], stk := [] }
  | 82, 59, 0 => some { tmps := [0, 5, 10, 11, 12, 13], loops := [], dead := [], stk := [] }
  | 82, 45, 0 => some { tmps := [0, 5, 8, 10, 11, 12, 13], loops := [], dead := [], stk := [] }
  | 82, 67, 0 => some { tmps := [5, 10, 11, 12, 13, 15], loops := [], dead := [], stk := [] }
  | 82, 69, 0 => some { tmps := [5, 10, 11, 12, 13], loops := [], dead := [], stk := [] }
  | _, _, _ => none
noncomputable def fn82 (x : ((List Int) × Int)) : (Int × (DOperand × (Int × Int))) := endVal (TC.dflt (.st (.int .i64) (.st COperand (.st (.int .i64) (.st1 (.int .i64)))))) (step82 x) (tree82 x)
def pre82 (x : ((List Int) × Int)) : Prop := ∃ r, Ends (step82 x) r (tree82 x)
noncomputable def spec82 : Spec := { dom := (.st (.slice (.int .u8)) (.st1 (.int .u8))), cod := (.st (.int .i64) (.st COperand (.st (.int .i64) (.st1 (.int .i64))))), n := 4, pre := pre82, f := fn82 }
noncomputable def need82 : FuncId → Option Spec
  | 35 => some spec35
  | 105 => some spec105
  | 106 => some spec106
  | _ => none
theorem need82_ok : ∀ f sp, need82 f = some sp → SpecOk env0 f sp := by
  intro f sp h
  unfold need82 at h
  split at h
  · cases h; exact ok35
  · cases h; exact ok105
  · cases h; exact ok106
  · cases h
theorem run82 (W : Cfg) (Q : (Int × (DOperand × (Int × Int))) → Prop) (x : ((List Int) × Int)) : run (env need82 (fun _ _ => none)) stop82 (finS spec82 Q) W 100000 (startFr 82 Tryd.f82 (bodyOf Tryd.f82) (argsOf (.st (.slice (.int .u8)) (.st1 (.int .u8))) x)) [] [] = (tree82 x).wp (kont W Q (head82 x)) := by kernel_rfl
theorem run82h0 (W : Cfg) (Q : (Int × (DOperand × (Int × Int))) → Prop) (x : ((List Int) × Int)) : run (env need82 (fun _ _ => none)) stop82 (finS spec82 Q) W 100000 (head82 x (.h0)).fr.enter (head82 x (.h0)).stk (head82 x (.h0)).H = (step82 x (.h0)).wp (kont W Q (head82 x)) := by kernel_rfl
theorem run82h1 (W : Cfg) (Q : (Int × (DOperand × (Int × Int))) → Prop) (x : ((List Int) × Int)) (v2 : Int) (v3 : Int) (v4 : Int) : run (env need82 (fun _ _ => none)) stop82 (finS spec82 Q) W 100000 (head82 x (.h1 v2 v3 v4)).fr.enter (head82 x (.h1 v2 v3 v4)).stk (head82 x (.h1 v2 v3 v4)).H = (step82 x (.h1 v2 v3 v4)).wp (kont W Q (head82 x)) := by kernel_rfl
theorem run82h2 (W : Cfg) (Q : (Int × (DOperand × (Int × Int))) → Prop) (x : ((List Int) × Int)) (v2 : Int) (v3 : Int) (v4 : Int) (v6 : Int) (v15 : DOperand) : run (env need82 (fun _ _ => none)) stop82 (finS spec82 Q) W 100000 (head82 x (.h2 v2 v3 v4 v6 v15)).fr.enter (head82 x (.h2 v2 v3 v4 v6 v15)).stk (head82 x (.h2 v2 v3 v4 v6 v15)).H = (step82 x (.h2 v2 v3 v4 v6 v15)).wp (kont W Q (head82 x)) := by kernel_rfl
theorem run82h3 (W : Cfg) (Q : (Int × (DOperand × (Int × Int))) → Prop) (x : ((List Int) × Int)) (v2 : Int) (v3 : Int) (v4 : Int) (v6 : Int) (v15 : DOperand) : run (env need82 (fun _ _ => none)) stop82 (finS spec82 Q) W 100000 (head82 x (.h3 v2 v3 v4 v6 v15)).fr.enter (head82 x (.h3 v2 v3 v4 v6 v15)).stk (head82 x (.h3 v2 v3 v4 v6 v15)).H = (step82 x (.h3 v2 v3 v4 v6 v15)).wp (kont W Q (head82 x)) := by kernel_rfl
theorem run82h4 (W : Cfg) (Q : (Int × (DOperand × (Int × Int))) → Prop) (x : ((List Int) × Int)) (v2 : Int) (v3 : Int) (v4 : Int) (v13 : DOperand) : run (env need82 (fun _ _ => none)) stop82 (finS spec82 Q) W 100000 (head82 x (.h4 v2 v3 v4 v13)).fr.enter (head82 x (.h4 v2 v3 v4 v13)).stk (head82 x (.h4 v2 v3 v4 v13)).H = (step82 x (.h4 v2 v3 v4 v13)).wp (kont W Q (head82 x)) := by kernel_rfl
theorem run82h5 (W : Cfg) (Q : (Int × (DOperand × (Int × Int))) → Prop) (x : ((List Int) × Int)) (v1 : Int) (v2 : Int) (v3 : Int) (v12 : DOperand) : run (env need82 (fun _ _ => none)) stop82 (finS spec82 Q) W 100000 (head82 x (.h5 v1 v2 v3 v12)).fr.enter (head82 x (.h5 v1 v2 v3 v12)).stk (head82 x (.h5 v1 v2 v3 v12)).H = (step82 x (.h5 v1 v2 v3 v12)).wp (kont W Q (head82 x)) := by kernel_rfl
theorem run82h6 (W : Cfg) (Q : (Int × (DOperand × (Int × Int))) → Prop) (x : ((List Int) × Int)) (v1 : Int) (v2 : Int) (v4 : Int) (v13 : DOperand) : run (env need82 (fun _ _ => none)) stop82 (finS spec82 Q) W 100000 (head82 x (.h6 v1 v2 v4 v13)).fr.enter (head82 x (.h6 v1 v2 v4 v13)).stk (head82 x (.h6 v1 v2 v4 v13)).H = (step82 x (.h6 v1 v2 v4 v13)).wp (kont W Q (head82 x)) := by kernel_rfl
theorem run82h7 (W : Cfg) (Q : (Int × (DOperand × (Int × Int))) → Prop) (x : ((List Int) × Int)) (v0 : Int) (v1 : Int) (v2 : Int) (v3 : Int) (v12 : DOperand) : run (env need82 (fun _ _ => none)) stop82 (finS spec82 Q) W 100000 (head82 x (.h7 v0 v1 v2 v3 v12)).fr.enter (head82 x (.h7 v0 v1 v2 v3 v12)).stk (head82 x (.h7 v0 v1 v2 v3 v12)).H = (step82 x (.h7 v0 v1 v2 v3 v12)).wp (kont W Q (head82 x)) := by kernel_rfl
theorem run82h8 (W : Cfg) (Q : (Int × (DOperand × (Int × Int))) → Prop) (x : ((List Int) × Int)) (v0 : Int) (v1 : Int) (v2 : Int) (v11 : DOperand) : run (env need82 (fun _ _ => none)) stop82 (finS spec82 Q) W 100000 (head82 x (.h8 v0 v1 v2 v11)).fr.enter (head82 x (.h8 v0 v1 v2 v11)).stk (head82 x (.h8 v0 v1 v2 v11)).H = (step82 x (.h8 v0 v1 v2 v11)).wp (kont W Q (head82 x)) := by kernel_rfl
theorem runs82 (W : Cfg) (Q : (Int × (DOperand × (Int × Int))) → Prop) (x : ((List Int) × Int)) : ∀ j : J82, run (env need82 (fun _ _ => none)) stop82 (finS spec82 Q) W 100000 (head82 x j).fr.enter (head82 x j).stk (head82 x j).H = (step82 x j).wp (kont W Q (head82 x))
  | .h0 => run82h0 W Q x
  | .h1 v2 v3 v4 => run82h1 W Q x v2 v3 v4
  | .h2 v2 v3 v4 v6 v15 => run82h2 W Q x v2 v3 v4 v6 v15
  | .h3 v2 v3 v4 v6 v15 => run82h3 W Q x v2 v3 v4 v6 v15
  | .h4 v2 v3 v4 v13 => run82h4 W Q x v2 v3 v4 v13
  | .h5 v1 v2 v3 v12 => run82h5 W Q x v1 v2 v3 v12
  | .h6 v1 v2 v4 v13 => run82h6 W Q x v1 v2 v4 v13
  | .h7 v0 v1 v2 v3 v12 => run82h7 W Q x v0 v1 v2 v3 v12
  | .h8 v0 v1 v2 v11 => run82h8 W Q x v0 v1 v2 v11
theorem ok82 : SpecOk env0 82 spec82 := SpecOk.env rfl (fun _ _ h => h) (spec_of_trees (E := (env need82 (fun _ _ => none))) (sp := spec82) (valid _ _) (fun f sp h => SpecOk.env rfl (fun _ _ h => h) (need82_ok f sp h)) (fn := Tryd.f82) (c := (bodyOf Tryd.f82)) (by kernel_rfl) (by kernel_rfl) tree82 step82 head82 run82 runs82 (fun _ h => endVal_ends h))

/-! ### sundial/sundialref09.taken -/
inductive J50 where
  | h0 (v0 : Int) (v1 : Int) (v38 : DOperand)
  | h1 (v0 : Int) (v1 : Int) (v32 : DOperand)
  | h2 (v0 : Int) (v17 : DOperand) (v25 : DOperand)
noncomputable def tree50 (x : (Dhead × (DForm × (List Int)))) : Tr (J50 ⊕ (DOperand × (DOperand × (Int × Bool)))) :=
  let y0 : ((List Int) × Int) := (x.2.2, x.1.2.2.1)
  .need (pre82 y0) <|
  let y1 : (Int × (DOperand × (Int × Int))) := (fn82 y0)
  let y2 : (DOperand × (Int × Int)) := y1.2
  let y3 : (Int × Int) := y2.2
  .ite ((ine y3.2 0) == false) (
    .ite (x.2.1.2.2.2.2.2.2.2.2.2.2.2.2.2 == true) (
      let y4 : DOperand := y2.1
      .ite (ieq y4.1 1) (
        let y5 : (Int × (Int × (Int × (Int × (Int × (Int × (Bool × Int))))))) := (0, (0, (0, (0, (0, (0, (false, 0)))))))
        let y6 : ((Int × (Int × (Int × (Int × (Int × (Int × (Bool × Int))))))) × ((Int × (Int × (Int × (Int × (Int × (Int × (Bool × Int))))))) × (Int × Bool))) := (y5, (y5, (0, false)))
        .ret (.inr y6)) (
        let y7 : Int := y1.1
        let y8 : Int := y3.1
        .ret (.inl (.h0 y7 y8 y4)))) (
      let y9 : Int := y1.1
      let y10 : Int := y3.1
      let y11 : DOperand := y2.1
      .ret (.inl (.h0 y9 y10 y11)))) (
    let y12 : (Int × (Int × (Int × (Int × (Int × (Int × (Bool × Int))))))) := (0, (0, (0, (0, (0, (0, (false, 0)))))))
    let y13 : ((Int × (Int × (Int × (Int × (Int × (Int × (Bool × Int))))))) × ((Int × (Int × (Int × (Int × (Int × (Int × (Bool × Int))))))) × (Int × Bool))) := (y12, (y12, (0, false)))
    .ret (.inr y13))
noncomputable def step50 (x : (Dhead × (DForm × (List Int)))) : J50 → Tr (J50 ⊕ (DOperand × (DOperand × (Int × Bool))))
  | .h0 v0 v1 v38 =>
    let y0 : (Int × (Int × (Int × (Bool × (Bool × (Bool × Bool)))))) := x.2.1.2.2.2.2.2.2.2
    let y1 : (Int × (Int × (Bool × (Bool × (Bool × Bool))))) := y0.2
    .ite (y1.2.2.2.2.1 == true) (
      .ite (!x.1.2.1) (
        .ite ((ieq y0.1 1) == true) (
          let y2 : Int := y1.1
          .ite ((ieq y2 1) == false) (
            let y3 : Bool := ((ieq v38.1 1) == true)
            .ite y3 (
              let y4 : Int := v38.2.1
              let y5 : Bool := ((ile 4 y4) == true)
              .ite y5 (
                let y6 : Bool := ((ilt y4 8) == false)
                .ite y6 (
                  let y7 : Bool := ((ieq y2 2) == true)
                  .ite y7 (
                    let y8 : Bool := ((ile 4 v0) == true)
                    .ite y8 (
                      let y9 : Bool := (ilt v0 8)
                      .ite y9 (
                        let y10 : (Int × (Int × (Int × (Int × (Int × (Int × (Bool × Int))))))) := (0, (0, (0, (0, (0, (0, (false, 0)))))))
                        let y11 : ((Int × (Int × (Int × (Int × (Int × (Int × (Bool × Int))))))) × ((Int × (Int × (Int × (Int × (Int × (Int × (Bool × Int))))))) × (Int × Bool))) := (y10, (y10, (0, false)))
                        .ret (.inr y11)) (
                        .ret (.inl (.h1 v0 v1 v38)))) (
                      .ret (.inl (.h1 v0 v1 v38)))) (
                    .ret (.inl (.h1 v0 v1 v38)))) (
                  let y12 : (Int × (Int × (Int × (Int × (Int × (Int × (Bool × Int))))))) := (0, (0, (0, (0, (0, (0, (false, 0)))))))
                  let y13 : ((Int × (Int × (Int × (Int × (Int × (Int × (Bool × Int))))))) × ((Int × (Int × (Int × (Int × (Int × (Int × (Bool × Int))))))) × (Int × Bool))) := (y12, (y12, (0, false)))
                  .ret (.inr y13))) (
                let y14 : Bool := ((ieq y2 2) == true)
                .ite y14 (
                  let y15 : Bool := ((ile 4 v0) == true)
                  .ite y15 (
                    let y16 : Bool := (ilt v0 8)
                    .ite y16 (
                      let y17 : (Int × (Int × (Int × (Int × (Int × (Int × (Bool × Int))))))) := (0, (0, (0, (0, (0, (0, (false, 0)))))))
                      let y18 : ((Int × (Int × (Int × (Int × (Int × (Int × (Bool × Int))))))) × ((Int × (Int × (Int × (Int × (Int × (Int × (Bool × Int))))))) × (Int × Bool))) := (y17, (y17, (0, false)))
                      .ret (.inr y18)) (
                      .ret (.inl (.h1 v0 v1 v38)))) (
                    .ret (.inl (.h1 v0 v1 v38)))) (
                  .ret (.inl (.h1 v0 v1 v38))))) (
              let y19 : Bool := ((ieq y2 2) == true)
              .ite y19 (
                let y20 : Bool := ((ile 4 v0) == true)
                .ite y20 (
                  let y21 : Bool := (ilt v0 8)
                  .ite y21 (
                    let y22 : (Int × (Int × (Int × (Int × (Int × (Int × (Bool × Int))))))) := (0, (0, (0, (0, (0, (0, (false, 0)))))))
                    let y23 : ((Int × (Int × (Int × (Int × (Int × (Int × (Bool × Int))))))) × ((Int × (Int × (Int × (Int × (Int × (Int × (Bool × Int))))))) × (Int × Bool))) := (y22, (y22, (0, false)))
                    .ret (.inr y23)) (
                    .ret (.inl (.h1 v0 v1 v38)))) (
                  .ret (.inl (.h1 v0 v1 v38)))) (
                .ret (.inl (.h1 v0 v1 v38))))) (
            let y24 : Bool := ((ieq v38.1 1) == true)
            .ite y24 (
              let y25 : Int := v38.2.1
              let y26 : Bool := ((ile 4 y25) == true)
              .ite y26 (
                let y27 : Bool := ((ilt y25 8) == false)
                .ite y27 (
                  let y28 : Bool := ((ile 4 v0) == true)
                  .ite y28 (
                    let y29 : Bool := (ilt v0 8)
                    .ite y29 (
                      let y30 : (Int × (Int × (Int × (Int × (Int × (Int × (Bool × Int))))))) := (0, (0, (0, (0, (0, (0, (false, 0)))))))
                      let y31 : ((Int × (Int × (Int × (Int × (Int × (Int × (Bool × Int))))))) × ((Int × (Int × (Int × (Int × (Int × (Int × (Bool × Int))))))) × (Int × Bool))) := (y30, (y30, (0, false)))
                      .ret (.inr y31)) (
                      .ret (.inl (.h1 v0 v1 v38)))) (
                    .ret (.inl (.h1 v0 v1 v38)))) (
                  let y32 : (Int × (Int × (Int × (Int × (Int × (Int × (Bool × Int))))))) := (0, (0, (0, (0, (0, (0, (false, 0)))))))
                  let y33 : ((Int × (Int × (Int × (Int × (Int × (Int × (Bool × Int))))))) × ((Int × (Int × (Int × (Int × (Int × (Int × (Bool × Int))))))) × (Int × Bool))) := (y32, (y32, (0, false)))
                  .ret (.inr y33))) (
                let y34 : Bool := ((ile 4 v0) == true)
                .ite y34 (
                  let y35 : Bool := (ilt v0 8)
                  .ite y35 (
                    let y36 : (Int × (Int × (Int × (Int × (Int × (Int × (Bool × Int))))))) := (0, (0, (0, (0, (0, (0, (false, 0)))))))
                    let y37 : ((Int × (Int × (Int × (Int × (Int × (Int × (Bool × Int))))))) × ((Int × (Int × (Int × (Int × (Int × (Int × (Bool × Int))))))) × (Int × Bool))) := (y36, (y36, (0, false)))
                    .ret (.inr y37)) (
                    .ret (.inl (.h1 v0 v1 v38)))) (
                  .ret (.inl (.h1 v0 v1 v38))))) (
              let y38 : Bool := ((ile 4 v0) == true)
              .ite y38 (
                let y39 : Bool := (ilt v0 8)
                .ite y39 (
                  let y40 : (Int × (Int × (Int × (Int × (Int × (Int × (Bool × Int))))))) := (0, (0, (0, (0, (0, (0, (false, 0)))))))
                  let y41 : ((Int × (Int × (Int × (Int × (Int × (Int × (Bool × Int))))))) × ((Int × (Int × (Int × (Int × (Int × (Int × (Bool × Int))))))) × (Int × Bool))) := (y40, (y40, (0, false)))
                  .ret (.inr y41)) (
                  .ret (.inl (.h1 v0 v1 v38)))) (
                .ret (.inl (.h1 v0 v1 v38)))))) (
          let y42 : Bool := ((ieq v38.1 1) == true)
          .ite y42 (
            let y43 : Int := v38.2.1
            let y44 : Bool := ((ile 4 y43) == true)
            .ite y44 (
              let y45 : Bool := ((ilt y43 8) == false)
              .ite y45 (
                .ret (.inl (.h1 v0 v1 v38))) (
                let y46 : (Int × (Int × (Int × (Int × (Int × (Int × (Bool × Int))))))) := (0, (0, (0, (0, (0, (0, (false, 0)))))))
                let y47 : ((Int × (Int × (Int × (Int × (Int × (Int × (Bool × Int))))))) × ((Int × (Int × (Int × (Int × (Int × (Int × (Bool × Int))))))) × (Int × Bool))) := (y46, (y46, (0, false)))
                .ret (.inr y47))) (
              .ret (.inl (.h1 v0 v1 v38)))) (
            .ret (.inl (.h1 v0 v1 v38))))) (
        .ret (.inl (.h1 v0 v1 v38)))) (
      .ret (.inl (.h1 v0 v1 v38)))
  | .h1 v0 v1 v32 =>
    .need (pre35 v0) <|
    .ite x.2.1.2.2.2.2.2.2.2.2.2.2.2.1 (
      .ite (ieq v32.1 1) (
        let y0 : (Int × (Int × (Int × (Int × (Int × (Bool × Int)))))) := (fn35 v0).2
        let y1 : (Int × (Int × (Int × (Int × (Int × (Int × (Bool × Int))))))) := ((fn35 v0).1, ((iadd .i64 y0.1 16), y0.2))
        .ret (.inl (.h2 v1 (v32.1, ((iadd .i64 v32.2.1 16), v32.2.2)) y1))) (
        let y2 : (Int × (Int × (Int × (Int × (Int × (Bool × Int)))))) := (fn35 v0).2
        let y3 : (Int × (Int × (Int × (Int × (Int × (Int × (Bool × Int))))))) := ((fn35 v0).1, ((iadd .i64 y2.1 16), y2.2))
        .ret (.inl (.h2 v1 v32 y3)))) (
      .ret (.inl (.h2 v1 v32 (fn35 v0))))
  | .h2 v0 v17 v25 =>
    .ret (.inr (v25, (v17, (v0, true))))
noncomputable def head50 (x : (Dhead × (DForm × (List Int)))) : J50 → Head
  | .h0 v0 v1 v38 =>
    { fr := { id := 50, kind := .top, T := [.any, .any, .any, (.ptr 0 []), (.ptr 1 []), .any, (.ptr 2 []), (.ptr 3 []), .any, .any, (.int .i64 v0), (.ptr 4 []), (.int .i64 v1)] ++ List.replicate 89 .any, items := [.code (subc [1, 1, 1, 0, 0] (bodyOf Tryd.f50)), .code (subc [1, 1, 1, 0, 1] (bodyOf Tryd.f50)), .code (subc [1, 1, 1, 1] (bodyOf Tryd.f50))], D := [], base := 0 },
      stk := [],
      H := [.cell true 77 (.agg [1, 1, 1, 1, 1, 1] [(.int .u8 x.1.1), (.bool x.1.2.1), (.int .u8 x.1.2.2.1), (.int .u8 x.1.2.2.2.1), (.int .u8 x.1.2.2.2.2.1), (.int .i64 x.1.2.2.2.2.2)]), .cell true 51 (.agg [1, 1, 1, 1, 1, 1, 1, 1, 1, 1, 1, 1, 1, 1] [(.int .u8 x.2.1.1), (.int .u8 x.2.1.2.1), (.int .u8 x.2.1.2.2.1), (.bool x.2.1.2.2.2.1), (.int .i64 x.2.1.2.2.2.2.1), (.int .u8 x.2.1.2.2.2.2.2.1), (.int .u8 x.2.1.2.2.2.2.2.2.1), (.int .i64 x.2.1.2.2.2.2.2.2.2.1), (.int .u8 x.2.1.2.2.2.2.2.2.2.2.1), (.int .i64 x.2.1.2.2.2.2.2.2.2.2.2.1), (.bool x.2.1.2.2.2.2.2.2.2.2.2.2.1), (.bool x.2.1.2.2.2.2.2.2.2.2.2.2.2.1), (.bool x.2.1.2.2.2.2.2.2.2.2.2.2.2.2.1), (.bool x.2.1.2.2.2.2.2.2.2.2.2.2.2.2.2)]), .cell true 23 (.agg [1, 1, 1, 1, 1, 1, 1, 1] [(.int .u8 0), (.int .i64 0), (.int .i64 0), (.int .i64 0), (.int .i64 0), (.int .i64 0), (.bool false), (.int .i64 0)]), .cell true 23 (.agg [1, 1, 1, 1, 1, 1, 1, 1] [(.int .u8 0), (.int .i64 0), (.int .i64 0), (.int .i64 0), (.int .i64 0), (.int .i64 0), (.bool false), (.int .i64 0)]), .cell true 23 (.agg [1, 1, 1, 1, 1, 1, 1, 1] [(.int .u8 v38.1), (.int .i64 v38.2.1), (.int .i64 v38.2.2.1), (.int .i64 v38.2.2.2.1), (.int .i64 v38.2.2.2.2.1), (.int .i64 v38.2.2.2.2.2.1), (.bool v38.2.2.2.2.2.2.1), (.int .i64 v38.2.2.2.2.2.2.2)])] }
  | .h1 v0 v1 v32 =>
    { fr := { id := 50, kind := .top, T := List.replicate 4 .any ++ [(.ptr 0 []), .any, (.ptr 1 []), (.ptr 2 []), .any, .any, (.int .i64 v0), (.ptr 3 []), (.int .i64 v1)] ++ List.replicate 89 .any, items := [.code (subc [1, 1, 1, 1, 0] (bodyOf Tryd.f50)), .code (subc [1, 1, 1, 1, 1] (bodyOf Tryd.f50))], D := [], base := 0 },
      stk := [],
      H := [.cell true 51 (.agg [1, 1, 1, 1, 1, 1, 1, 1, 1, 1, 1, 1, 1, 1] [(.int .u8 x.2.1.1), (.int .u8 x.2.1.2.1), (.int .u8 x.2.1.2.2.1), (.bool x.2.1.2.2.2.1), (.int .i64 x.2.1.2.2.2.2.1), (.int .u8 x.2.1.2.2.2.2.2.1), (.int .u8 x.2.1.2.2.2.2.2.2.1), (.int .i64 x.2.1.2.2.2.2.2.2.2.1), (.int .u8 x.2.1.2.2.2.2.2.2.2.2.1), (.int .i64 x.2.1.2.2.2.2.2.2.2.2.2.1), (.bool x.2.1.2.2.2.2.2.2.2.2.2.2.1), (.bool x.2.1.2.2.2.2.2.2.2.2.2.2.2.1), (.bool x.2.1.2.2.2.2.2.2.2.2.2.2.2.2.1), (.bool x.2.1.2.2.2.2.2.2.2.2.2.2.2.2.2)]), .cell true 23 (.agg [1, 1, 1, 1, 1, 1, 1, 1] [(.int .u8 0), (.int .i64 0), (.int .i64 0), (.int .i64 0), (.int .i64 0), (.int .i64 0), (.bool false), (.int .i64 0)]), .cell true 23 (.agg [1, 1, 1, 1, 1, 1, 1, 1] [(.int .u8 0), (.int .i64 0), (.int .i64 0), (.int .i64 0), (.int .i64 0), (.int .i64 0), (.bool false), (.int .i64 0)]), .cell true 23 (.agg [1, 1, 1, 1, 1, 1, 1, 1] [(.int .u8 v32.1), (.int .i64 v32.2.1), (.int .i64 v32.2.2.1), (.int .i64 v32.2.2.2.1), (.int .i64 v32.2.2.2.2.1), (.int .i64 v32.2.2.2.2.2.1), (.bool v32.2.2.2.2.2.2.1), (.int .i64 v32.2.2.2.2.2.2.2)])] }
  | .h2 v0 v17 v25 =>
    { fr := { id := 50, kind := .top, T := List.replicate 6 .any ++ [(.ptr 0 []), (.ptr 1 []), .any, .any, .any, (.ptr 2 []), (.int .i64 v0), .any, .any, (.ptr 3 [])] ++ List.replicate 86 .any, items := [.code (subc [1, 1, 1, 1, 1, 1, 0] (bodyOf Tryd.f50)), .code (subc [1, 1, 1, 1, 1, 1, 1] (bodyOf Tryd.f50))], D := [], base := 0 },
      stk := [],
      H := [.cell true 23 (.agg [1, 1, 1, 1, 1, 1, 1, 1] [(.int .u8 0), (.int .i64 0), (.int .i64 0), (.int .i64 0), (.int .i64 0), (.int .i64 0), (.bool false), (.int .i64 0)]), .cell true 23 (.agg [1, 1, 1, 1, 1, 1, 1, 1] [(.int .u8 0), (.int .i64 0), (.int .i64 0), (.int .i64 0), (.int .i64 0), (.int .i64 0), (.bool false), (.int .i64 0)]), .cell true 23 (.agg [1, 1, 1, 1, 1, 1, 1, 1] [(.int .u8 v17.1), (.int .i64 v17.2.1), (.int .i64 v17.2.2.1), (.int .i64 v17.2.2.2.1), (.int .i64 v17.2.2.2.2.1), (.int .i64 v17.2.2.2.2.2.1), (.bool v17.2.2.2.2.2.2.1), (.int .i64 v17.2.2.2.2.2.2.2)]), .cell true 23 (.agg [1, 1, 1, 1, 1, 1, 1, 1] [(.int .u8 v25.1), (.int .i64 v25.2.1), (.int .i64 v25.2.2.1), (.int .i64 v25.2.2.2.1), (.int .i64 v25.2.2.2.2.1), (.int .i64 v25.2.2.2.2.2.1), (.bool v25.2.2.2.2.2.2.1), (.int .i64 v25.2.2.2.2.2.2.2)])] }
noncomputable def stop50 : FuncId → Nat → Nat → Option Cut
  | 50, 9, 0 => some { tmps := [3, 4, 6, 7, 10, 11, 12], loops := [], dead := [], stk := [] }
  | 50, 17, 0 => some { tmps := [4, 6, 7, 10, 11, 12], loops := [], dead := [], stk := [] }
  | 50, 27, 0 => some { tmps := [6, 7, 11, 12, 15], loops := [], dead := [], stk := [] }
  | _, _, _ => none
noncomputable def fn50 (x : (Dhead × (DForm × (List Int)))) : (DOperand × (DOperand × (Int × Bool))) := endVal (TC.dflt (.st COperand (.st COperand (.st (.int .i64) (.st1 .bool))))) (step50 x) (tree50 x)
def pre50 (x : (Dhead × (DForm × (List Int)))) : Prop := ∃ r, Ends (step50 x) r (tree50 x)
noncomputable def spec50 : Spec := { dom := (.st Chead (.st CForm (.st1 (.slice (.int .u8))))), cod := (.st COperand (.st COperand (.st (.int .i64) (.st1 .bool)))), n := 4, pre := pre50, f := fn50 }
noncomputable def need50 : FuncId → Option Spec
  | 35 => some spec35
  | 82 => some spec82
  | _ => none
theorem need50_ok : ∀ f sp, need50 f = some sp → SpecOk env0 f sp := by
  intro f sp h
  unfold need50 at h
  split at h
  · cases h; exact ok35
  · cases h; exact ok82
  · cases h
theorem run50 (W : Cfg) (Q : (DOperand × (DOperand × (Int × Bool))) → Prop) (x : (Dhead × (DForm × (List Int)))) : run (env need50 (fun _ _ => none)) stop50 (finS spec50 Q) W 100000 (startFr 50 Tryd.f50 (bodyOf Tryd.f50) (argsOf (.st Chead (.st CForm (.st1 (.slice (.int .u8))))) x)) [] [] = (tree50 x).wp (kont W Q (head50 x)) := by kernel_rfl
theorem run50h0 (W : Cfg) (Q : (DOperand × (DOperand × (Int × Bool))) → Prop) (x : (Dhead × (DForm × (List Int)))) (v0 : Int) (v1 : Int) (v38 : DOperand) : run (env need50 (fun _ _ => none)) stop50 (finS spec50 Q) W 100000 (head50 x (.h0 v0 v1 v38)).fr.enter (head50 x (.h0 v0 v1 v38)).stk (head50 x (.h0 v0 v1 v38)).H = (step50 x (.h0 v0 v1 v38)).wp (kont W Q (head50 x)) := by kernel_rfl
theorem run50h1 (W : Cfg) (Q : (DOperand × (DOperand × (Int × Bool))) → Prop) (x : (Dhead × (DForm × (List Int)))) (v0 : Int) (v1 : Int) (v32 : DOperand) : run (env need50 (fun _ _ => none)) stop50 (finS spec50 Q) W 100000 (head50 x (.h1 v0 v1 v32)).fr.enter (head50 x (.h1 v0 v1 v32)).stk (head50 x (.h1 v0 v1 v32)).H = (step50 x (.h1 v0 v1 v32)).wp (kont W Q (head50 x)) := by kernel_rfl
theorem run50h2 (W : Cfg) (Q : (DOperand × (DOperand × (Int × Bool))) → Prop) (x : (Dhead × (DForm × (List Int)))) (v0 : Int) (v17 : DOperand) (v25 : DOperand) : run (env need50 (fun _ _ => none)) stop50 (finS spec50 Q) W 100000 (head50 x (.h2 v0 v17 v25)).fr.enter (head50 x (.h2 v0 v17 v25)).stk (head50 x (.h2 v0 v17 v25)).H = (step50 x (.h2 v0 v17 v25)).wp (kont W Q (head50 x)) := by kernel_rfl
theorem runs50 (W : Cfg) (Q : (DOperand × (DOperand × (Int × Bool))) → Prop) (x : (Dhead × (DForm × (List Int)))) : ∀ j : J50, run (env need50 (fun _ _ => none)) stop50 (finS spec50 Q) W 100000 (head50 x j).fr.enter (head50 x j).stk (head50 x j).H = (step50 x j).wp (kont W Q (head50 x))
  | .h0 v0 v1 v38 => run50h0 W Q x v0 v1 v38
  | .h1 v0 v1 v32 => run50h1 W Q x v0 v1 v32
  | .h2 v0 v17 v25 => run50h2 W Q x v0 v17 v25
theorem ok50 : SpecOk env0 50 spec50 := SpecOk.env rfl (fun _ _ h => h) (spec_of_trees (E := (env need50 (fun _ _ => none))) (sp := spec50) (valid _ _) (fun f sp h => SpecOk.env rfl (fun _ _ h => h) (need50_ok f sp h)) (fn := Tryd.f50) (c := (bodyOf Tryd.f50)) (by kernel_rfl) (by kernel_rfl) tree50 step50 head50 run50 runs50 (fun _ h => endVal_ends h))

end Go.Eng.RD
end
section
/- Functions of this program, written out. -/
namespace Go.Eng.RD
open Go.Proofs Go.Eng
set_option maxRecDepth 100000

/-! ### sundial/sundialref01.Number -/
inductive J83 where
  | h0 (v1 : Int) (v2 : Int)
noncomputable def tree83 (_x : (List Int)) : Tr (J83 ⊕ Int) :=
  .ret (.inl (.h0 0 0))
noncomputable def step83 (x : (List Int)) : J83 → Tr (J83 ⊕ Int)
  | .h0 v1 v2 =>
    .ite ((ilt v2 (x.length : Int)) == true) (
      .ite (ilt v2 8) (
        .need ((0 : Int) ≤ v2) <|
        .need (v2 < (x.length : Int)) <|
        let y0 : Int := (iconv .u64 (imul .i64 8 v2))
        .need ((0 : Int) ≤ y0) <|
        .ret (.inl (.h0 (ior .u64 v1 (ishl .u64 (iconv .u64 (rdc (.int .u8) x (v2).toNat)) y0)) (iadd .i64 v2 1)))) (
        .ret (.inr v1))) (
      .ret (.inr v1))
noncomputable def head83 (x : (List Int)) : J83 → Head
  | .h0 v1 v2 =>
    { fr := { id := 83, kind := .top, T := [(.fsl (.int .u8) x), .any, .any, (.int .u64 v1), (.int .i64 v2)] ++ List.replicate 22 .any, items := [.lp (subc [1, 1, 0, 1, 0, 0] (bodyOf Tryd.f83)), .blk 0, .code (subc [1, 1, 1] (bodyOf Tryd.f83))], D := [], base := 0 },
      stk := [],
      H := [] }
noncomputable def stop83 : FuncId → Nat → Nat → Option Cut
  | 83, 0, 0 => some { tmps := [0, 3, 4], loops := [], dead := [], stk := [] }
  | _, _, _ => none
noncomputable def fn83 (x : (List Int)) : Int := endVal (TC.dflt (.int .u64)) (step83 x) (tree83 x)
def pre83 (x : (List Int)) : Prop := ∃ r, Ends (step83 x) r (tree83 x)
noncomputable def spec83 : Spec := { dom := (.st1 (.slice (.int .u8))), cod := (.int .u64), n := 1, pre := pre83, f := fn83 }
noncomputable def need83 : FuncId → Option Spec
  | _ => none
theorem need83_ok : ∀ f sp, need83 f = some sp → SpecOk env0 f sp := by
  intro f sp h
  unfold need83 at h
  split at h
  · cases h
theorem run83 (W : Cfg) (Q : Int → Prop) (x : (List Int)) : run (env need83 (fun _ _ => none)) stop83 (finS spec83 Q) W 100000 (startFr 83 Tryd.f83 (bodyOf Tryd.f83) (argsOf (.st1 (.slice (.int .u8))) x)) [] [] = (tree83 x).wp (kont W Q (head83 x)) := by kernel_rfl
theorem run83h0 (W : Cfg) (Q : Int → Prop) (x : (List Int)) (v1 : Int) (v2 : Int) : run (env need83 (fun _ _ => none)) stop83 (finS spec83 Q) W 100000 (head83 x (.h0 v1 v2)).fr.enter (head83 x (.h0 v1 v2)).stk (head83 x (.h0 v1 v2)).H = (step83 x (.h0 v1 v2)).wp (kont W Q (head83 x)) := by kernel_rfl
theorem runs83 (W : Cfg) (Q : Int → Prop) (x : (List Int)) : ∀ j : J83, run (env need83 (fun _ _ => none)) stop83 (finS spec83 Q) W 100000 (head83 x j).fr.enter (head83 x j).stk (head83 x j).H = (step83 x j).wp (kont W Q (head83 x))
  | .h0 v1 v2 => run83h0 W Q x v1 v2
theorem ok83 : SpecOk env0 83 spec83 := SpecOk.env rfl (fun _ _ h => h) (spec_of_trees (E := (env need83 (fun _ _ => none))) (sp := spec83) (valid _ _) (fun f sp h => SpecOk.env rfl (fun _ _ h => h) (need83_ok f sp h)) (fn := Tryd.f83) (c := (bodyOf Tryd.f83)) (by kernel_rfl) (by kernel_rfl) tree83 step83 head83 run83 runs83 (fun _ h => endVal_ends h))

/-! ### sundial/sundialref09.shift -/
noncomputable def tree84 (x : Int) : Tr Bool :=
  .ite ((ieq x 19) == false) (
    .ite ((ieq x 20) == false) (
      .ite ((ieq x 16) == false) (
        .ite ((ieq x 17) == false) (
          .ret (ieq x 18)) (
          .ret true)) (
        .ret true)) (
      .ret true)) (
    .ret true)
noncomputable def fn84 (x : Int) : Bool := (tree84 x).val
def pre84 (x : Int) : Prop := (tree84 x).ok
noncomputable def spec84 : Spec := { dom := (.st1 (.int .u8)), cod := .bool, n := 1, pre := pre84, f := fn84 }
noncomputable def need84 : FuncId → Option Spec
  | _ => none
theorem need84_ok : ∀ f sp, need84 f = some sp → SpecOk env0 f sp := by
  intro f sp h
  unfold need84 at h
  split at h
  · cases h
theorem run84 (W : Cfg) (Q : Bool → Prop) (x : Int) : run (env need84 (fun _ _ => none)) (fun _ _ _ => none) (finS spec84 Q) W 100000 (startFr 84 Tryd.f84 (bodyOf Tryd.f84) (argsOf (.st1 (.int .u8)) x)) [] [] = (tree84 x).wp Q := by kernel_rfl
theorem ok84 : SpecOk env0 84 spec84 := SpecOk.env rfl (fun _ _ h => h) (spec_of_tree (E := (env need84 (fun _ _ => none))) (sp := spec84) (valid _ _) (fun f sp h => SpecOk.env rfl (fun _ _ h => h) (need84_ok f sp h)) (fn := Tryd.f84) (c := (bodyOf Tryd.f84)) (by kernel_rfl) (by kernel_rfl) tree84 run84 (fun _ h => Tr.gives_val h))

/-! ### sundial/sundialref01.wide -/
noncomputable def tree157 (x : Int) : Tr Int :=
  .ret (imin (imax x 1) 8)
noncomputable def fn157 (x : Int) : Int := (tree157 x).val
def pre157 (x : Int) : Prop := (tree157 x).ok
noncomputable def spec157 : Spec := { dom := (.st1 (.int .i64)), cod := (.int .i64), n := 1, pre := pre157, f := fn157 }
noncomputable def need157 : FuncId → Option Spec
  | _ => none
theorem need157_ok : ∀ f sp, need157 f = some sp → SpecOk env0 f sp := by
  intro f sp h
  unfold need157 at h
  split at h
  · cases h
theorem run157 (W : Cfg) (Q : Int → Prop) (x : Int) : run (env need157 (fun _ _ => none)) (fun _ _ _ => none) (finS spec157 Q) W 100000 (startFr 157 Tryd.f157 (bodyOf Tryd.f157) (argsOf (.st1 (.int .i64)) x)) [] [] = (tree157 x).wp Q := by kernel_rfl
theorem ok157 : SpecOk env0 157 spec157 := SpecOk.env rfl (fun _ _ h => h) (spec_of_tree (E := (env need157 (fun _ _ => none))) (sp := spec157) (valid _ _) (fun f sp h => SpecOk.env rfl (fun _ _ h => h) (need157_ok f sp h)) (fn := Tryd.f157) (c := (bodyOf Tryd.f157)) (by kernel_rfl) (by kernel_rfl) tree157 run157 (fun _ h => Tr.gives_val h))

/-! ### sundial/sundialref01.Mask -/
inductive J109 where
  | h0 (v1 : Int) (v2 : Int)
noncomputable def tree109 (_x : Int) : Tr (J109 ⊕ Int) :=
  .ret (.inl (.h0 0 0))
noncomputable def step109 (x : Int) : J109 → Tr (J109 ⊕ Int)
  | .h0 v1 v2 =>
    .need (pre157 x) <|
    .ite (ilt v2 (imul .i64 8 (fn157 x))) (
      .need ((0 : Int) ≤ (iconv .u64 v2)) <|
      .ret (.inl (.h0 (ior .u64 v1 (ishl .u64 1 (iconv .u64 v2))) (iadd .i64 v2 1)))) (
      .ret (.inr v1))
noncomputable def head109 (x : Int) : J109 → Head
  | .h0 v1 v2 =>
    { fr := { id := 109, kind := .top, T := [(.int .i64 x), .any, .any, (.int .u64 v1), (.int .i64 v2)] ++ List.replicate 13 .any, items := [.lp (subc [1, 1, 0, 1, 0, 0] (bodyOf Tryd.f109)), .blk 0, .code (subc [1, 1, 1] (bodyOf Tryd.f109))], D := [], base := 0 },
      stk := [],
      H := [] }
noncomputable def stop109 : FuncId → Nat → Nat → Option Cut
  | 109, 0, 0 => some { tmps := [0, 3, 4], loops := [], dead := [], stk := [] }
  | _, _, _ => none
noncomputable def fn109 (x : Int) : Int := endVal (TC.dflt (.int .u64)) (step109 x) (tree109 x)
def pre109 (x : Int) : Prop := ∃ r, Ends (step109 x) r (tree109 x)
noncomputable def spec109 : Spec := { dom := (.st1 (.int .i64)), cod := (.int .u64), n := 1, pre := pre109, f := fn109 }
noncomputable def need109 : FuncId → Option Spec
  | 157 => some spec157
  | _ => none
theorem need109_ok : ∀ f sp, need109 f = some sp → SpecOk env0 f sp := by
  intro f sp h
  unfold need109 at h
  split at h
  · cases h; exact ok157
  · cases h
theorem run109 (W : Cfg) (Q : Int → Prop) (x : Int) : run (env need109 (fun _ _ => none)) stop109 (finS spec109 Q) W 100000 (startFr 109 Tryd.f109 (bodyOf Tryd.f109) (argsOf (.st1 (.int .i64)) x)) [] [] = (tree109 x).wp (kont W Q (head109 x)) := by kernel_rfl
theorem run109h0 (W : Cfg) (Q : Int → Prop) (x : Int) (v1 : Int) (v2 : Int) : run (env need109 (fun _ _ => none)) stop109 (finS spec109 Q) W 100000 (head109 x (.h0 v1 v2)).fr.enter (head109 x (.h0 v1 v2)).stk (head109 x (.h0 v1 v2)).H = (step109 x (.h0 v1 v2)).wp (kont W Q (head109 x)) := by kernel_rfl
theorem runs109 (W : Cfg) (Q : Int → Prop) (x : Int) : ∀ j : J109, run (env need109 (fun _ _ => none)) stop109 (finS spec109 Q) W 100000 (head109 x j).fr.enter (head109 x j).stk (head109 x j).H = (step109 x j).wp (kont W Q (head109 x))
  | .h0 v1 v2 => run109h0 W Q x v1 v2
theorem ok109 : SpecOk env0 109 spec109 := SpecOk.env rfl (fun _ _ h => h) (spec_of_trees (E := (env need109 (fun _ _ => none))) (sp := spec109) (valid _ _) (fun f sp h => SpecOk.env rfl (fun _ _ h => h) (need109_ok f sp h)) (fn := Tryd.f109) (c := (bodyOf Tryd.f109)) (by kernel_rfl) (by kernel_rfl) tree109 step109 head109 run109 runs109 (fun _ h => endVal_ends h))

/-! ### sundial/sundialref01.Cut -/
noncomputable def tree107 (x : (Int × Int)) : Tr Int :=
  .need (pre109 x.2) <|
  .ret (iand .u64 x.1 (fn109 x.2))
noncomputable def fn107 (x : (Int × Int)) : Int := (tree107 x).val
def pre107 (x : (Int × Int)) : Prop := (tree107 x).ok
noncomputable def spec107 : Spec := { dom := (.st (.int .u64) (.st1 (.int .i64))), cod := (.int .u64), n := 1, pre := pre107, f := fn107 }
noncomputable def need107 : FuncId → Option Spec
  | 109 => some spec109
  | _ => none
theorem need107_ok : ∀ f sp, need107 f = some sp → SpecOk env0 f sp := by
  intro f sp h
  unfold need107 at h
  split at h
  · cases h; exact ok109
  · cases h
theorem run107 (W : Cfg) (Q : Int → Prop) (x : (Int × Int)) : run (env need107 (fun _ _ => none)) (fun _ _ _ => none) (finS spec107 Q) W 100000 (startFr 107 Tryd.f107 (bodyOf Tryd.f107) (argsOf (.st (.int .u64) (.st1 (.int .i64))) x)) [] [] = (tree107 x).wp Q := by kernel_rfl
theorem ok107 : SpecOk env0 107 spec107 := SpecOk.env rfl (fun _ _ h => h) (spec_of_tree (E := (env need107 (fun _ _ => none))) (sp := spec107) (valid _ _) (fun f sp h => SpecOk.env rfl (fun _ _ h => h) (need107_ok f sp h)) (fn := Tryd.f107) (c := (bodyOf Tryd.f107)) (by kernel_rfl) (by kernel_rfl) tree107 run107 (fun _ h => Tr.gives_val h))

/-! ### sundial/sundialref01.Sign -/
noncomputable def tree108 (x : (Int × Int)) : Tr Bool :=
  .need (pre157 x.2) <|
  let y0 : Int := (iconv .u64 (isub .i64 (imul .i64 8 (fn157 x.2)) 1))
  .need ((0 : Int) ≤ y0) <|
  .ret (ieq (iand .u64 (ishr .u64 x.1 y0) 1) 1)
noncomputable def fn108 (x : (Int × Int)) : Bool := (tree108 x).val
def pre108 (x : (Int × Int)) : Prop := (tree108 x).ok
noncomputable def spec108 : Spec := { dom := (.st (.int .u64) (.st1 (.int .i64))), cod := .bool, n := 1, pre := pre108, f := fn108 }
noncomputable def need108 : FuncId → Option Spec
  | 157 => some spec157
  | _ => none
theorem need108_ok : ∀ f sp, need108 f = some sp → SpecOk env0 f sp := by
  intro f sp h
  unfold need108 at h
  split at h
  · cases h; exact ok157
  · cases h
theorem run108 (W : Cfg) (Q : Bool → Prop) (x : (Int × Int)) : run (env need108 (fun _ _ => none)) (fun _ _ _ => none) (finS spec108 Q) W 100000 (startFr 108 Tryd.f108 (bodyOf Tryd.f108) (argsOf (.st (.int .u64) (.st1 (.int .i64))) x)) [] [] = (tree108 x).wp Q := by kernel_rfl
theorem ok108 : SpecOk env0 108 spec108 := SpecOk.env rfl (fun _ _ h => h) (spec_of_tree (E := (env need108 (fun _ _ => none))) (sp := spec108) (valid _ _) (fun f sp h => SpecOk.env rfl (fun _ _ h => h) (need108_ok f sp h)) (fn := Tryd.f108) (c := (bodyOf Tryd.f108)) (by kernel_rfl) (by kernel_rfl) tree108 run108 (fun _ h => Tr.gives_val h))

/-! ### sundial/sundialref01.Ext -/
noncomputable def tree85 (x : (Int × Int)) : Tr Int :=
  .need (pre107 x) <|
  let y0 : (Int × Int) := ((fn107 x), x.2)
  .need (pre108 y0) <|
  .ite (fn108 y0) (
    .need (pre109 x.2) <|
    .ret (ior .u64 (fn107 x) (inot .u64 (fn109 x.2)))) (
    .ret (fn107 x))
noncomputable def fn85 (x : (Int × Int)) : Int := (tree85 x).val
def pre85 (x : (Int × Int)) : Prop := (tree85 x).ok
noncomputable def spec85 : Spec := { dom := (.st (.int .u64) (.st1 (.int .i64))), cod := (.int .u64), n := 1, pre := pre85, f := fn85 }
noncomputable def need85 : FuncId → Option Spec
  | 107 => some spec107
  | 108 => some spec108
  | 109 => some spec109
  | _ => none
theorem need85_ok : ∀ f sp, need85 f = some sp → SpecOk env0 f sp := by
  intro f sp h
  unfold need85 at h
  split at h
  · cases h; exact ok107
  · cases h; exact ok108
  · cases h; exact ok109
  · cases h
theorem run85 (W : Cfg) (Q : Int → Prop) (x : (Int × Int)) : run (env need85 (fun _ _ => none)) (fun _ _ _ => none) (finS spec85 Q) W 100000 (startFr 85 Tryd.f85 (bodyOf Tryd.f85) (argsOf (.st (.int .u64) (.st1 (.int .i64))) x)) [] [] = (tree85 x).wp Q := by kernel_rfl
theorem ok85 : SpecOk env0 85 spec85 := SpecOk.env rfl (fun _ _ h => h) (spec_of_tree (E := (env need85 (fun _ _ => none))) (sp := spec85) (valid _ _) (fun f sp h => SpecOk.env rfl (fun _ _ h => h) (need85_ok f sp h)) (fn := Tryd.f85) (c := (bodyOf Tryd.f85)) (by kernel_rfl) (by kernel_rfl) tree85 run85 (fun _ h => Tr.gives_val h))

/-! ### sundial/sundialref09.behind -/
noncomputable def tree51 (x : (DForm × (List Int))) : Tr Int :=
  let y0 : (Int × (Int × (Int × (Int × (Int × (Bool × (Bool × (Bool × Bool)))))))) := x.1.2.2.2.2.2
  let y1 : Int := y0.2.2.2.2.1
  .need ((0 : Int) ≤ y1) <|
  let y2 : Nat := (y1).toNat
  .need ((0 : Nat) ≤ y2) <|
  .need ((y2 : Nat) ≤ x.2.length) <|
  let y3 : (List Int) := ((x.2.drop 0).take (y2 - 0))
  .need (pre83 y3) <|
  let y4 : Int := y0.1
  .need (pre84 y4) <|
  .ite (fn84 y4) (
    let y5 : Int := (fn83 y3)
    .ret (iconv .i64 y5)) (
    let y6 : Int := (fn83 y3)
    let y7 : (Int × Int) := (y6, (imax y1 1))
    .need (pre85 y7) <|
    .ret (iconv .i64 (fn85 y7)))
noncomputable def fn51 (x : (DForm × (List Int))) : Int := (tree51 x).val
def pre51 (x : (DForm × (List Int))) : Prop := (tree51 x).ok
noncomputable def spec51 : Spec := { dom := (.st CForm (.st1 (.slice (.int .u8)))), cod := (.int .i64), n := 1, pre := pre51, f := fn51 }
noncomputable def need51 : FuncId → Option Spec
  | 83 => some spec83
  | 84 => some spec84
  | 85 => some spec85
  | _ => none
theorem need51_ok : ∀ f sp, need51 f = some sp → SpecOk env0 f sp := by
  intro f sp h
  unfold need51 at h
  split at h
  · cases h; exact ok83
  · cases h; exact ok84
  · cases h; exact ok85
  · cases h
theorem run51 (W : Cfg) (Q : Int → Prop) (x : (DForm × (List Int))) : run (env need51 (fun _ _ => none)) (fun _ _ _ => none) (finS spec51 Q) W 100000 (startFr 51 Tryd.f51 (bodyOf Tryd.f51) (argsOf (.st CForm (.st1 (.slice (.int .u8)))) x)) [] [] = (tree51 x).wp Q := by kernel_rfl
theorem ok51 : SpecOk env0 51 spec51 := SpecOk.env rfl (fun _ _ h => h) (spec_of_tree (E := (env need51 (fun _ _ => none))) (sp := spec51) (valid _ _) (fun f sp h => SpecOk.env rfl (fun _ _ h => h) (need51_ok f sp h)) (fn := Tryd.f51) (c := (bodyOf Tryd.f51)) (by kernel_rfl) (by kernel_rfl) tree51 run51 (fun _ h => Tr.gives_val h))

/-! ### sundial/sundialref09.imm -/
noncomputable def tree86 (x : Int) : Tr DOperand :=
  .ret (3, (0, ((-1), ((-1), (0, (0, (false, x)))))))
noncomputable def fn86 (x : Int) : DOperand := (tree86 x).val
def pre86 (x : Int) : Prop := (tree86 x).ok
noncomputable def spec86 : Spec := { dom := (.st1 (.int .i64)), cod := COperand, n := 1, pre := pre86, f := fn86 }
noncomputable def need86 : FuncId → Option Spec
  | _ => none
theorem need86_ok : ∀ f sp, need86 f = some sp → SpecOk env0 f sp := by
  intro f sp h
  unfold need86 at h
  split at h
  · cases h
theorem run86 (W : Cfg) (Q : DOperand → Prop) (x : Int) : run (env need86 (fun _ _ => none)) (fun _ _ _ => none) (finS spec86 Q) W 100000 (startFr 86 Tryd.f86 (bodyOf Tryd.f86) (argsOf (.st1 (.int .i64)) x)) [] [] = (tree86 x).wp Q := by kernel_rfl
theorem ok86 : SpecOk env0 86 spec86 := SpecOk.env rfl (fun _ _ h => h) (spec_of_tree (E := (env need86 (fun _ _ => none))) (sp := spec86) (valid _ _) (fun f sp h => SpecOk.env rfl (fun _ _ h => h) (need86_ok f sp h)) (fn := Tryd.f86) (c := (bodyOf Tryd.f86)) (by kernel_rfl) (by kernel_rfl) tree86 run86 (fun _ h => Tr.gives_val h))

/-! ### sundial/sundialref09.put -/
noncomputable def tree52 (x : (DInsn × (DForm × (DOperand × (DOperand × (DOperand × Int)))))) : Tr DInsn :=
  let y0 : Int := x.2.1.2.2.2.2.2.2.2.2.1
  .ite (ieq y0 1) (
    let y1 : Int := x.1.1
    let y2 : (Int × (Int × (DOperand × (DOperand × (Int × Int))))) := x.1.2
    let y3 : Int := y2.1
    let y4 : (Int × (DOperand × (DOperand × (Int × Int)))) := y2.2
    let y5 : Int := y4.1
    let y6 : (DOperand × (DOperand × (DOperand × Int))) := x.2.2
    let y7 : (DOperand × (DOperand × Int)) := y6.2
    let y8 : DOperand := y7.1
    let y9 : DOperand := y6.1
    let y10 : (DOperand × (DOperand × (Int × Int))) := y4.2
    let y11 : (DOperand × (Int × Int)) := y10.2
    let y12 : (Int × Int) := y11.2
    .ret (y1, (y3, (y5, (y8, (y9, y12)))))) (
    .ite (ieq y0 2) (
      let y13 : Int := x.1.1
      let y14 : (Int × (Int × (DOperand × (DOperand × (Int × Int))))) := x.1.2
      let y15 : Int := y14.1
      let y16 : (Int × (DOperand × (DOperand × (Int × Int)))) := y14.2
      let y17 : Int := y16.1
      let y18 : (DOperand × (DOperand × (DOperand × Int))) := x.2.2
      let y19 : DOperand := y18.1
      let y20 : (DOperand × (DOperand × Int)) := y18.2
      let y21 : DOperand := y20.1
      let y22 : (DOperand × (DOperand × (Int × Int))) := y16.2
      let y23 : (DOperand × (Int × Int)) := y22.2
      let y24 : (Int × Int) := y23.2
      .ret (y13, (y15, (y17, (y19, (y21, y24)))))) (
      .ite (ieq y0 3) (
        let y25 : Int := x.1.1
        let y26 : (Int × (Int × (DOperand × (DOperand × (Int × Int))))) := x.1.2
        let y27 : Int := y26.1
        let y28 : (Int × (DOperand × (DOperand × (Int × Int)))) := y26.2
        let y29 : Int := y28.1
        let y30 : (DOperand × (DOperand × (DOperand × Int))) := x.2.2
        let y31 : (DOperand × (DOperand × Int)) := y30.2
        let y32 : DOperand := y31.1
        let y33 : (DOperand × (DOperand × (Int × Int))) := y28.2
        let y34 : (DOperand × (Int × Int)) := y33.2
        .ret (y25, (y27, (y29, (y32, y34))))) (
        .ite (ieq y0 4) (
          let y35 : (DOperand × (DOperand × (DOperand × Int))) := x.2.2
          let y36 : (DOperand × (DOperand × Int)) := y35.2
          let y37 : (DOperand × Int) := y36.2
          let y38 : Int := y37.2
          .need (pre86 y38) <|
          let y39 : Int := x.1.1
          let y40 : (Int × (Int × (DOperand × (DOperand × (Int × Int))))) := x.1.2
          let y41 : Int := y40.1
          let y42 : (Int × (DOperand × (DOperand × (Int × Int)))) := y40.2
          let y43 : Int := y42.1
          let y44 : DOperand := y36.1
          let y45 : (DOperand × (DOperand × (Int × Int))) := y42.2
          let y46 : (DOperand × (Int × Int)) := y45.2
          let y47 : (Int × Int) := y46.2
          let y48 : (DOperand × (Int × Int)) := ((fn86 y38), y47)
          .ret (y39, (y41, (y43, (y44, y48))))) (
          .ite (ieq y0 5) (
            .need (pre35 1) <|
            let y49 : Int := x.1.1
            let y50 : (Int × (Int × (DOperand × (DOperand × (Int × Int))))) := x.1.2
            let y51 : Int := y50.1
            let y52 : (Int × (DOperand × (DOperand × (Int × Int)))) := y50.2
            let y53 : Int := y52.1
            let y54 : (DOperand × (DOperand × (DOperand × Int))) := x.2.2
            let y55 : (DOperand × (DOperand × Int)) := y54.2
            let y56 : DOperand := y55.1
            let y57 : (DOperand × (DOperand × (Int × Int))) := y52.2
            let y58 : (DOperand × (Int × Int)) := y57.2
            let y59 : (Int × Int) := y58.2
            .ret (y49, (y51, (y53, (y56, ((fn35 1), y59)))))) (
            .ite (ieq y0 6) (
              let y60 : Int := x.1.1
              let y61 : (Int × (Int × (DOperand × (DOperand × (Int × Int))))) := x.1.2
              let y62 : Int := y61.1
              let y63 : (Int × (DOperand × (DOperand × (Int × Int)))) := y61.2
              let y64 : Int := y63.1
              let y65 : (DOperand × (DOperand × (DOperand × Int))) := x.2.2
              let y66 : (DOperand × (DOperand × Int)) := y65.2
              let y67 : (DOperand × Int) := y66.2
              let y68 : DOperand := y67.1
              let y69 : (DOperand × (DOperand × (Int × Int))) := y63.2
              let y70 : (DOperand × (Int × Int)) := y69.2
              .ret (y60, (y62, (y64, (y68, y70))))) (
              .ite (ieq y0 7) (
                let y71 : (DOperand × (DOperand × (DOperand × Int))) := x.2.2
                let y72 : (DOperand × (DOperand × Int)) := y71.2
                let y73 : (DOperand × Int) := y72.2
                let y74 : Int := y73.2
                .need (pre86 y74) <|
                let y75 : Int := x.1.1
                let y76 : (Int × (Int × (DOperand × (DOperand × (Int × Int))))) := x.1.2
                let y77 : Int := y76.1
                let y78 : (Int × (DOperand × (DOperand × (Int × Int)))) := y76.2
                let y79 : Int := y78.1
                let y80 : DOperand := y73.1
                let y81 : (DOperand × (DOperand × (Int × Int))) := y78.2
                let y82 : (DOperand × (Int × Int)) := y81.2
                let y83 : (Int × Int) := y82.2
                let y84 : (DOperand × (Int × Int)) := ((fn86 y74), y83)
                .ret (y75, (y77, (y79, (y80, y84))))) (
                .ite (ieq y0 8) (
                  let y85 : (DOperand × (DOperand × (DOperand × Int))) := x.2.2
                  let y86 : (DOperand × (DOperand × Int)) := y85.2
                  let y87 : (DOperand × Int) := y86.2
                  let y88 : Int := y87.2
                  .need (pre86 y88) <|
                  let y89 : Int := x.1.1
                  let y90 : (Int × (Int × (DOperand × (DOperand × (Int × Int))))) := x.1.2
                  let y91 : Int := y90.1
                  let y92 : (Int × (DOperand × (DOperand × (Int × Int)))) := y90.2
                  let y93 : Int := y92.1
                  let y94 : (DOperand × (DOperand × (Int × Int))) := y92.2
                  let y95 : (DOperand × (Int × Int)) := y94.2
                  let y96 : (Int × Int) := y95.2
                  let y97 : (DOperand × (Int × Int)) := ((fn86 y88), y96)
                  .ret (y89, (y91, (y93, (y94.1, y97))))) (
                  .ret x.1))))))))
noncomputable def fn52 (x : (DInsn × (DForm × (DOperand × (DOperand × (DOperand × Int)))))) : DInsn := (tree52 x).val
def pre52 (x : (DInsn × (DForm × (DOperand × (DOperand × (DOperand × Int)))))) : Prop := (tree52 x).ok
noncomputable def spec52 : Spec := { dom := (.st CInsn (.st CForm (.st COperand (.st COperand (.st COperand (.st1 (.int .i64))))))), cod := CInsn, n := 1, pre := pre52, f := fn52 }
noncomputable def need52 : FuncId → Option Spec
  | 35 => some spec35
  | 86 => some spec86
  | _ => none
theorem need52_ok : ∀ f sp, need52 f = some sp → SpecOk env0 f sp := by
  intro f sp h
  unfold need52 at h
  split at h
  · cases h; exact ok35
  · cases h; exact ok86
  · cases h
theorem run52 (W : Cfg) (Q : DInsn → Prop) (x : (DInsn × (DForm × (DOperand × (DOperand × (DOperand × Int)))))) : run (env need52 (fun _ _ => none)) (fun _ _ _ => none) (finS spec52 Q) W 100000 (startFr 52 Tryd.f52 (bodyOf Tryd.f52) (argsOf (.st CInsn (.st CForm (.st COperand (.st COperand (.st COperand (.st1 (.int .i64))))))) x)) [] [] = (tree52 x).wp Q := by kernel_rfl
theorem ok52 : SpecOk env0 52 spec52 := SpecOk.env rfl (fun _ _ h => h) (spec_of_tree (E := (env need52 (fun _ _ => none))) (sp := spec52) (valid _ _) (fun f sp h => SpecOk.env rfl (fun _ _ h => h) (need52_ok f sp h)) (fn := Tryd.f52) (c := (bodyOf Tryd.f52)) (by kernel_rfl) (by kernel_rfl) tree52 run52 (fun _ h => Tr.gives_val h))

/-! ### sundial/sundialref09.One -/
inductive J25 where
  | h0 (v22 : Dhead)
  | h1 (v1 : Int) (v23 : Dhead)
  | h2 (v1 : Bool) (v23 : Dhead) (v29 : DForm)
  | h3 (v1 : Bool) (v2 : Int) (v3 : Int) (v25 : Dhead) (v31 : DForm) (v61 : DOperand) (v69 : DOperand)
  | h4 (v1 : Bool) (v2 : Int) (v24 : Dhead) (v30 : DForm) (v44 : DOperand) (v52 : DOperand)
  | h5 (v1 : Bool) (v2 : Int) (v24 : Dhead) (v30 : DForm) (v44 : DOperand) (v52 : DOperand)
  | h6 (v1 : Int) (v23 : Dhead) (v29 : DForm) (v43 : DOperand) (v51 : DOperand) (v59 : Int) (v60 : Int) (v61 : Int)
  | h7 (v0 : Int) (v22 : DForm) (v36 : DInsn)
noncomputable def tree25 (x : (List Int)) : Tr (J25 ⊕ (DInsn × Int)) :=
  .need (pre47 x) <|
  .ite (!(fn47 x).2) (
    let y0 : (Int × (Int × (Int × (Int × (Int × (Int × (Bool × Int))))))) := (0, (0, (0, (0, (0, (0, (false, 0)))))))
    .ret (.inr ((0, (0, (0, (y0, (y0, (0, 0)))))), 80))) (
    .ret (.inl (.h0 (fn47 x).1)))
noncomputable def step25 (x : (List Int)) : J25 → Tr (J25 ⊕ (DInsn × Int))
  | .h0 v22 =>
    let y0 : Int := v22.2.2.2.2.2
    .ite (ilt y0 (x.length : Int)) (
      .need ((0 : Int) ≤ y0) <|
      .need (y0 < (x.length : Int)) <|
      .need ((0 : Int) ≤ 3) <|
      .ret (.inl (.h1 (iconv .i64 (iand .u8 (ishr .u8 (rdc (.int .u8) x (y0).toNat) 3) 7)) v22))) (
      .ret (.inl (.h1 0 v22)))
  | .h1 v1 v23 =>
    let y0 : (Int × (Int × (Int × Int))) := v23.2.2
    let y1 : (Int × (Int × Int)) := y0.2
    let y2 : (Int × (Int × (Int × Int))) := (v23.1, (y1.1, (y1.2.1, v1)))
    .need (pre48 y2) <|
    .need ((0 : Int) ≤ 3) <|
    let y3 : (DForm × Bool) := (fn48 y2)
    .ite ((!y3.2) == false) (
      let y4 : DForm := y3.1
      .ite (y4.2.2.2.2.2.2.2.2.2.2.1 == true) (
        let y5 : Bool := (ieq (iand .u8 (ishr .u8 y0.1 3) 1) 1)
        .ite (!y5) (
          let y6 : (Int × (Int × (Int × (Int × (Int × (Int × (Bool × Int))))))) := (0, (0, (0, (0, (0, (0, (false, 0)))))))
          let y7 : ((Int × (Int × (Int × ((Int × (Int × (Int × (Int × (Int × (Int × (Bool × Int))))))) × ((Int × (Int × (Int × (Int × (Int × (Int × (Bool × Int))))))) × (Int × Int)))))) × Int) := ((0, (0, (0, (y6, (y6, (0, 0)))))), 80)
          .ret (.inr y7)) (
          .ret (.inl (.h2 y5 v23 y4)))) (
        let y8 : Bool := (ieq (iand .u8 (ishr .u8 y0.1 3) 1) 1)
        .ret (.inl (.h2 y8 v23 y4)))) (
      let y9 : (Int × (Int × (Int × (Int × (Int × (Int × (Bool × Int))))))) := (0, (0, (0, (0, (0, (0, (false, 0)))))))
      let y10 : ((Int × (Int × (Int × ((Int × (Int × (Int × (Int × (Int × (Int × (Bool × Int))))))) × ((Int × (Int × (Int × (Int × (Int × (Int × (Bool × Int))))))) × (Int × Int)))))) × Int) := ((0, (0, (0, (y9, (y9, (0, 0)))))), 80)
      .ret (.inr y10))
  | .h2 v1 v23 v29 =>
    let y0 : Int := v29.2.2.2.2.2.2.2.2.1
    .need (pre49 y0) <|
    .ite (!(fn49 y0)) (
      let y1 : Int := v23.2.2.2.2.2
      .need ((0 : Int) ≤ y1) <|
      let y2 : Nat := (y1).toNat
      .need ((y2 : Nat) ≤ x.length) <|
      let y3 : (Dhead × (DForm × (List Int))) := (v23, (v29, (x.drop y2)))
      .need (pre50 y3) <|
      .both (
        let y4 : (DOperand × (DOperand × (Int × Bool))) := (fn50 y3)
        let y5 : (DOperand × (Int × Bool)) := y4.2
        let y6 : (Int × Bool) := y5.2
        let y7 : Bool := (!y6.2)
        .ite y7 (
          let y8 : (Int × (Int × (Int × (Int × (Int × (Int × (Bool × Int))))))) := (0, (0, (0, (0, (0, (0, (false, 0)))))))
          let y9 : ((Int × (Int × (Int × ((Int × (Int × (Int × (Int × (Int × (Int × (Bool × Int))))))) × ((Int × (Int × (Int × (Int × (Int × (Int × (Bool × Int))))))) × (Int × Int)))))) × Int) := ((0, (0, (0, (y8, (y8, (0, 0)))))), 80)
          .ret (.inr y9)) (
          let y10 : Int := y6.1
          let y11 : DOperand := y4.1
          let y12 : DOperand := y5.1
          .ret (.inl (.h3 v1 y1 y10 v23 v29 y11 y12)))) (
        let y13 : (DOperand × (DOperand × (Int × Bool))) := (fn50 y3)
        let y14 : (DOperand × (Int × Bool)) := y13.2
        let y15 : (Int × Bool) := y14.2
        let y16 : Bool := (!y15.2)
        .ite y16 (
          let y17 : (Int × (Int × (Int × (Int × (Int × (Int × (Bool × Int))))))) := (0, (0, (0, (0, (0, (0, (false, 0)))))))
          let y18 : ((Int × (Int × (Int × ((Int × (Int × (Int × (Int × (Int × (Int × (Bool × Int))))))) × ((Int × (Int × (Int × (Int × (Int × (Int × (Bool × Int))))))) × (Int × Int)))))) × Int) := ((0, (0, (0, (y17, (y17, (0, 0)))))), 80)
          .ret (.inr y18)) (
          let y19 : Int := y15.1
          let y20 : DOperand := y13.1
          let y21 : DOperand := y14.1
          .ret (.inl (.h3 v1 y1 y19 v23 v29 y20 y21))))) (
      let y22 : Int := v23.2.2.2.2.2
      let y23 : (Int × (Int × (Int × (Int × (Int × (Int × (Bool × Int))))))) := (0, (0, (0, (0, (0, (0, (false, 0)))))))
      .ret (.inl (.h4 v1 y22 v23 v29 y23 y23)))
  | .h3 v1 v2 v3 v25 v31 v61 v69 =>
    .ret (.inl (.h4 v1 (iadd .i64 v2 v3) v25 v31 v61 v69))
  | .h4 v1 v2 v24 v30 v44 v52 =>
    .ite (ilt (isub .i64 (x.length : Int) v2) v30.2.2.2.2.2.2.2.2.2.1) (
      let y0 : (Int × (Int × (Int × (Int × (Int × (Int × (Bool × Int))))))) := (0, (0, (0, (0, (0, (0, (false, 0)))))))
      .ret (.inr ((0, (0, (0, (y0, (y0, (0, 0)))))), 80))) (
      .ret (.inl (.h5 v1 v2 v24 v30 v44 v52)))
  | .h5 v1 v2 v24 v30 v44 v52 =>
    let y0 : (Int × (Int × (Int × (Int × (Int × (Bool × (Bool × (Bool × Bool)))))))) := v30.2.2.2.2.2
    let y1 : (Int × (Int × (Int × (Int × (Bool × (Bool × (Bool × Bool))))))) := y0.2
    let y2 : Int := y1.2.1
    .ite (ieq y2 0) (
      .ite v1 (
        let y3 : Int := y0.1
        let y4 : Int := y1.1
        .ret (.inl (.h6 v2 v24 v30 v44 v52 y3 y4 8))) (
        let y5 : Int := y0.1
        let y6 : Int := y1.1
        .ret (.inl (.h6 v2 v24 v30 v44 v52 y5 y6 4)))) (
      let y7 : Int := y0.1
      let y8 : Int := y1.1
      .ret (.inl (.h6 v2 v24 v30 v44 v52 y7 y8 y2)))
  | .h6 v1 v23 v29 v43 v51 v59 v60 v61 =>
    .need ((0 : Int) ≤ v1) <|
    .need (((v1).toNat : Nat) ≤ x.length) <|
    let y0 : (DForm × (List Int)) := (v29, (x.drop (v1).toNat))
    .need (pre51 y0) <|
    let y1 : (Int × (Int × (Int × Int))) := v23.2.2
    let y2 : Int := (iadd .i64 (iconv .i64 (iand .u8 y1.2.2.1 7)) (imul .i64 (iconv .i64 (iand .u8 y1.1 1)) 8))
    .need (pre35 y2) <|
    let y3 : (Int × (Int × (Int × (Int × (Int × (Int × (Bool × Int))))))) := (0, (0, (0, (0, (0, (0, (false, 0)))))))
    let y4 : Int := (fn51 y0)
    let y5 : ((Int × (Int × (Int × ((Int × (Int × (Int × (Int × (Int × (Int × (Bool × Int))))))) × ((Int × (Int × (Int × (Int × (Int × (Int × (Bool × Int))))))) × (Int × Int)))))) × (DForm × (DOperand × (DOperand × (DOperand × Int))))) := ((v59, (v60, (v61, (y3, (y3, (0, 0)))))), (v29, (v43, (v51, ((fn35 y2), y4)))))
    .need (pre52 y5) <|
    .ite (ieq v29.2.2.2.2.2.1 39) (
      let y6 : DInsn := (fn52 y5)
      let y7 : (Int × (Int × (DOperand × (DOperand × (Int × Int))))) := y6.2
      let y8 : (Int × (DOperand × (DOperand × (Int × Int)))) := y7.2
      let y9 : (DOperand × (DOperand × (Int × Int))) := y8.2
      let y10 : (DOperand × (Int × Int)) := y9.2
      .ret (.inl (.h7 v1 v29 (y6.1, (y7.1, (y8.1, (y9.1, (y10.1, ((iconv .u8 y4), y10.2.2))))))))) (
      let y11 : DInsn := (fn52 y5)
      .ret (.inl (.h7 v1 v29 y11)))
  | .h7 v0 v22 v36 =>
    let y0 : (Int × (DOperand × (DOperand × (Int × Int)))) := v36.2.2
    let y1 : (DOperand × (DOperand × (Int × Int))) := y0.2
    let y2 : (DOperand × (Int × Int)) := y1.2
    .ret (.inr ((v36.1, (v36.2.1, (y0.1, (y1.1, (y2.1, (y2.2.1, (iadd .i64 v0 v22.2.2.2.2.2.2.2.2.2.1))))))), 0))
noncomputable def head25 (x : (List Int)) : J25 → Head
  | .h0 v22 =>
    { fr := { id := 25, kind := .top, T := [(.fsl (.int .u8) x), .any, (.ptr 0 []), .any, (.ptr 1 [])] ++ List.replicate 144 .any, items := [.code (subc [1, 1, 1, 0] (bodyOf Tryd.f25)), .code (subc [1, 1, 1, 1] (bodyOf Tryd.f25))], D := [], base := 0 },
      stk := [],
      H := [.cell true 25 (.agg [1, 1, 1, 8, 8, 1, 1] [(.int .u8 0), (.int .u8 0), (.int .i64 0), (.agg [1, 1, 1, 1, 1, 1, 1, 1] [(.int .u8 0), (.int .i64 0), (.int .i64 0), (.int .i64 0), (.int .i64 0), (.int .i64 0), (.bool false), (.int .i64 0)]), (.agg [1, 1, 1, 1, 1, 1, 1, 1] [(.int .u8 0), (.int .i64 0), (.int .i64 0), (.int .i64 0), (.int .i64 0), (.int .i64 0), (.bool false), (.int .i64 0)]), (.int .u8 0), (.int .i64 0)]), .cell true 77 (.agg [1, 1, 1, 1, 1, 1] [(.int .u8 v22.1), (.bool v22.2.1), (.int .u8 v22.2.2.1), (.int .u8 v22.2.2.2.1), (.int .u8 v22.2.2.2.2.1), (.int .i64 v22.2.2.2.2.2)])] }
  | .h1 v1 v23 =>
    { fr := { id := 25, kind := .top, T := [(.fsl (.int .u8) x), .any, (.ptr 0 []), .any, (.ptr 1 []), .any, (.int .i64 v1)] ++ List.replicate 142 .any, items := [.code (subc [1, 1, 1, 1, 1, 0] (bodyOf Tryd.f25)), .code (subc [1, 1, 1, 1, 1, 1] (bodyOf Tryd.f25))], D := [], base := 0 },
      stk := [],
      H := [.cell true 25 (.agg [1, 1, 1, 8, 8, 1, 1] [(.int .u8 0), (.int .u8 0), (.int .i64 0), (.agg [1, 1, 1, 1, 1, 1, 1, 1] [(.int .u8 0), (.int .i64 0), (.int .i64 0), (.int .i64 0), (.int .i64 0), (.int .i64 0), (.bool false), (.int .i64 0)]), (.agg [1, 1, 1, 1, 1, 1, 1, 1] [(.int .u8 0), (.int .i64 0), (.int .i64 0), (.int .i64 0), (.int .i64 0), (.int .i64 0), (.bool false), (.int .i64 0)]), (.int .u8 0), (.int .i64 0)]), .cell true 77 (.agg [1, 1, 1, 1, 1, 1] [(.int .u8 v23.1), (.bool v23.2.1), (.int .u8 v23.2.2.1), (.int .u8 v23.2.2.2.1), (.int .u8 v23.2.2.2.2.1), (.int .i64 v23.2.2.2.2.2)])] }
  | .h2 v1 v23 v29 =>
    { fr := { id := 25, kind := .top, T := [(.fsl (.int .u8) x), .any, (.ptr 0 []), .any, (.ptr 1 []), .any, .any, (.ptr 2 []), (.bool v1)] ++ List.replicate 140 .any, items := [.code (subc [1, 1, 1, 1, 1, 1, 1, 1, 0] (bodyOf Tryd.f25)), .code (subc [1, 1, 1, 1, 1, 1, 1, 1, 1] (bodyOf Tryd.f25))], D := [], base := 0 },
      stk := [],
      H := [.cell true 25 (.agg [1, 1, 1, 8, 8, 1, 1] [(.int .u8 0), (.int .u8 0), (.int .i64 0), (.agg [1, 1, 1, 1, 1, 1, 1, 1] [(.int .u8 0), (.int .i64 0), (.int .i64 0), (.int .i64 0), (.int .i64 0), (.int .i64 0), (.bool false), (.int .i64 0)]), (.agg [1, 1, 1, 1, 1, 1, 1, 1] [(.int .u8 0), (.int .i64 0), (.int .i64 0), (.int .i64 0), (.int .i64 0), (.int .i64 0), (.bool false), (.int .i64 0)]), (.int .u8 0), (.int .i64 0)]), .cell true 77 (.agg [1, 1, 1, 1, 1, 1] [(.int .u8 v23.1), (.bool v23.2.1), (.int .u8 v23.2.2.1), (.int .u8 v23.2.2.2.1), (.int .u8 v23.2.2.2.2.1), (.int .i64 v23.2.2.2.2.2)]), .cell true 51 (.agg [1, 1, 1, 1, 1, 1, 1, 1, 1, 1, 1, 1, 1, 1] [(.int .u8 v29.1), (.int .u8 v29.2.1), (.int .u8 v29.2.2.1), (.bool v29.2.2.2.1), (.int .i64 v29.2.2.2.2.1), (.int .u8 v29.2.2.2.2.2.1), (.int .u8 v29.2.2.2.2.2.2.1), (.int .i64 v29.2.2.2.2.2.2.2.1), (.int .u8 v29.2.2.2.2.2.2.2.2.1), (.int .i64 v29.2.2.2.2.2.2.2.2.2.1), (.bool v29.2.2.2.2.2.2.2.2.2.2.1), (.bool v29.2.2.2.2.2.2.2.2.2.2.2.1), (.bool v29.2.2.2.2.2.2.2.2.2.2.2.2.1), (.bool v29.2.2.2.2.2.2.2.2.2.2.2.2.2)])] }
  | .h3 v1 v2 v3 v25 v31 v61 v69 =>
    { fr := { id := 25, kind := .top, T := [(.fsl (.int .u8) x), .any, (.ptr 0 []), .any, (.ptr 1 []), .any, .any, (.ptr 2 []), (.bool v1), (.ptr 3 []), (.ptr 4 []), (.int .i64 v2), (.ptr 5 []), (.ptr 6 []), (.int .i64 v3)] ++ List.replicate 134 .any, items := [.code (subc [1, 1, 1, 1, 1, 1, 1, 1, 1, 1, 0, 1, 0, 1, 1, 0] (bodyOf Tryd.f25)), .code (subc [1, 1, 1, 1, 1, 1, 1, 1, 1, 1, 0, 1, 0, 1, 1, 1] (bodyOf Tryd.f25)), .code (subc [1, 1, 1, 1, 1, 1, 1, 1, 1, 1, 1] (bodyOf Tryd.f25))], D := [], base := 0 },
      stk := [],
      H := [.cell true 25 (.agg [1, 1, 1, 8, 8, 1, 1] [(.int .u8 0), (.int .u8 0), (.int .i64 0), (.agg [1, 1, 1, 1, 1, 1, 1, 1] [(.int .u8 0), (.int .i64 0), (.int .i64 0), (.int .i64 0), (.int .i64 0), (.int .i64 0), (.bool false), (.int .i64 0)]), (.agg [1, 1, 1, 1, 1, 1, 1, 1] [(.int .u8 0), (.int .i64 0), (.int .i64 0), (.int .i64 0), (.int .i64 0), (.int .i64 0), (.bool false), (.int .i64 0)]), (.int .u8 0), (.int .i64 0)]), .cell true 77 (.agg [1, 1, 1, 1, 1, 1] [(.int .u8 v25.1), (.bool v25.2.1), (.int .u8 v25.2.2.1), (.int .u8 v25.2.2.2.1), (.int .u8 v25.2.2.2.2.1), (.int .i64 v25.2.2.2.2.2)]), .cell true 51 (.agg [1, 1, 1, 1, 1, 1, 1, 1, 1, 1, 1, 1, 1, 1] [(.int .u8 v31.1), (.int .u8 v31.2.1), (.int .u8 v31.2.2.1), (.bool v31.2.2.2.1), (.int .i64 v31.2.2.2.2.1), (.int .u8 v31.2.2.2.2.2.1), (.int .u8 v31.2.2.2.2.2.2.1), (.int .i64 v31.2.2.2.2.2.2.2.1), (.int .u8 v31.2.2.2.2.2.2.2.2.1), (.int .i64 v31.2.2.2.2.2.2.2.2.2.1), (.bool v31.2.2.2.2.2.2.2.2.2.2.1), (.bool v31.2.2.2.2.2.2.2.2.2.2.2.1), (.bool v31.2.2.2.2.2.2.2.2.2.2.2.2.1), (.bool v31.2.2.2.2.2.2.2.2.2.2.2.2.2)]), .cell true 23 (.agg [1, 1, 1, 1, 1, 1, 1, 1] [(.int .u8 0), (.int .i64 0), (.int .i64 0), (.int .i64 0), (.int .i64 0), (.int .i64 0), (.bool false), (.int .i64 0)]), .cell true 23 (.agg [1, 1, 1, 1, 1, 1, 1, 1] [(.int .u8 0), (.int .i64 0), (.int .i64 0), (.int .i64 0), (.int .i64 0), (.int .i64 0), (.bool false), (.int .i64 0)]), .cell true 23 (.agg [1, 1, 1, 1, 1, 1, 1, 1] [(.int .u8 v61.1), (.int .i64 v61.2.1), (.int .i64 v61.2.2.1), (.int .i64 v61.2.2.2.1), (.int .i64 v61.2.2.2.2.1), (.int .i64 v61.2.2.2.2.2.1), (.bool v61.2.2.2.2.2.2.1), (.int .i64 v61.2.2.2.2.2.2.2)]), .cell true 23 (.agg [1, 1, 1, 1, 1, 1, 1, 1] [(.int .u8 v69.1), (.int .i64 v69.2.1), (.int .i64 v69.2.2.1), (.int .i64 v69.2.2.2.1), (.int .i64 v69.2.2.2.2.1), (.int .i64 v69.2.2.2.2.2.1), (.bool v69.2.2.2.2.2.2.1), (.int .i64 v69.2.2.2.2.2.2.2)])] }
  | .h4 v1 v2 v24 v30 v44 v52 =>
    { fr := { id := 25, kind := .top, T := [(.fsl (.int .u8) x), .any, (.ptr 0 []), .any, (.ptr 1 []), .any, .any, (.ptr 2 []), (.bool v1), (.ptr 3 []), (.ptr 4 []), (.int .i64 v2)] ++ List.replicate 137 .any, items := [.code (subc [1, 1, 1, 1, 1, 1, 1, 1, 1, 1, 1, 0, 0] (bodyOf Tryd.f25)), .code (subc [1, 1, 1, 1, 1, 1, 1, 1, 1, 1, 1, 0, 1] (bodyOf Tryd.f25)), .code (subc [1, 1, 1, 1, 1, 1, 1, 1, 1, 1, 1, 1] (bodyOf Tryd.f25))], D := [], base := 0 },
      stk := [],
      H := [.cell true 25 (.agg [1, 1, 1, 8, 8, 1, 1] [(.int .u8 0), (.int .u8 0), (.int .i64 0), (.agg [1, 1, 1, 1, 1, 1, 1, 1] [(.int .u8 0), (.int .i64 0), (.int .i64 0), (.int .i64 0), (.int .i64 0), (.int .i64 0), (.bool false), (.int .i64 0)]), (.agg [1, 1, 1, 1, 1, 1, 1, 1] [(.int .u8 0), (.int .i64 0), (.int .i64 0), (.int .i64 0), (.int .i64 0), (.int .i64 0), (.bool false), (.int .i64 0)]), (.int .u8 0), (.int .i64 0)]), .cell true 77 (.agg [1, 1, 1, 1, 1, 1] [(.int .u8 v24.1), (.bool v24.2.1), (.int .u8 v24.2.2.1), (.int .u8 v24.2.2.2.1), (.int .u8 v24.2.2.2.2.1), (.int .i64 v24.2.2.2.2.2)]), .cell true 51 (.agg [1, 1, 1, 1, 1, 1, 1, 1, 1, 1, 1, 1, 1, 1] [(.int .u8 v30.1), (.int .u8 v30.2.1), (.int .u8 v30.2.2.1), (.bool v30.2.2.2.1), (.int .i64 v30.2.2.2.2.1), (.int .u8 v30.2.2.2.2.2.1), (.int .u8 v30.2.2.2.2.2.2.1), (.int .i64 v30.2.2.2.2.2.2.2.1), (.int .u8 v30.2.2.2.2.2.2.2.2.1), (.int .i64 v30.2.2.2.2.2.2.2.2.2.1), (.bool v30.2.2.2.2.2.2.2.2.2.2.1), (.bool v30.2.2.2.2.2.2.2.2.2.2.2.1), (.bool v30.2.2.2.2.2.2.2.2.2.2.2.2.1), (.bool v30.2.2.2.2.2.2.2.2.2.2.2.2.2)]), .cell true 23 (.agg [1, 1, 1, 1, 1, 1, 1, 1] [(.int .u8 v44.1), (.int .i64 v44.2.1), (.int .i64 v44.2.2.1), (.int .i64 v44.2.2.2.1), (.int .i64 v44.2.2.2.2.1), (.int .i64 v44.2.2.2.2.2.1), (.bool v44.2.2.2.2.2.2.1), (.int .i64 v44.2.2.2.2.2.2.2)]), .cell true 23 (.agg [1, 1, 1, 1, 1, 1, 1, 1] [(.int .u8 v52.1), (.int .i64 v52.2.1), (.int .i64 v52.2.2.1), (.int .i64 v52.2.2.2.1), (.int .i64 v52.2.2.2.2.1), (.int .i64 v52.2.2.2.2.2.1), (.bool v52.2.2.2.2.2.2.1), (.int .i64 v52.2.2.2.2.2.2.2)])] }
  | .h5 v1 v2 v24 v30 v44 v52 =>
    { fr := { id := 25, kind := .top, T := [(.fsl (.int .u8) x), .any, (.ptr 0 []), .any, (.ptr 1 []), .any, .any, (.ptr 2 []), (.bool v1), (.ptr 3 []), (.ptr 4 []), (.int .i64 v2)] ++ List.replicate 137 .any, items := [.code (subc [1, 1, 1, 1, 1, 1, 1, 1, 1, 1, 1, 1, 0] (bodyOf Tryd.f25)), .code (subc [1, 1, 1, 1, 1, 1, 1, 1, 1, 1, 1, 1, 1] (bodyOf Tryd.f25))], D := [], base := 0 },
      stk := [],
      H := [.cell true 25 (.agg [1, 1, 1, 8, 8, 1, 1] [(.int .u8 0), (.int .u8 0), (.int .i64 0), (.agg [1, 1, 1, 1, 1, 1, 1, 1] [(.int .u8 0), (.int .i64 0), (.int .i64 0), (.int .i64 0), (.int .i64 0), (.int .i64 0), (.bool false), (.int .i64 0)]), (.agg [1, 1, 1, 1, 1, 1, 1, 1] [(.int .u8 0), (.int .i64 0), (.int .i64 0), (.int .i64 0), (.int .i64 0), (.int .i64 0), (.bool false), (.int .i64 0)]), (.int .u8 0), (.int .i64 0)]), .cell true 77 (.agg [1, 1, 1, 1, 1, 1] [(.int .u8 v24.1), (.bool v24.2.1), (.int .u8 v24.2.2.1), (.int .u8 v24.2.2.2.1), (.int .u8 v24.2.2.2.2.1), (.int .i64 v24.2.2.2.2.2)]), .cell true 51 (.agg [1, 1, 1, 1, 1, 1, 1, 1, 1, 1, 1, 1, 1, 1] [(.int .u8 v30.1), (.int .u8 v30.2.1), (.int .u8 v30.2.2.1), (.bool v30.2.2.2.1), (.int .i64 v30.2.2.2.2.1), (.int .u8 v30.2.2.2.2.2.1), (.int .u8 v30.2.2.2.2.2.2.1), (.int .i64 v30.2.2.2.2.2.2.2.1), (.int .u8 v30.2.2.2.2.2.2.2.2.1), (.int .i64 v30.2.2.2.2.2.2.2.2.2.1), (.bool v30.2.2.2.2.2.2.2.2.2.2.1), (.bool v30.2.2.2.2.2.2.2.2.2.2.2.1), (.bool v30.2.2.2.2.2.2.2.2.2.2.2.2.1), (.bool v30.2.2.2.2.2.2.2.2.2.2.2.2.2)]), .cell true 23 (.agg [1, 1, 1, 1, 1, 1, 1, 1] [(.int .u8 v44.1), (.int .i64 v44.2.1), (.int .i64 v44.2.2.1), (.int .i64 v44.2.2.2.1), (.int .i64 v44.2.2.2.2.1), (.int .i64 v44.2.2.2.2.2.1), (.bool v44.2.2.2.2.2.2.1), (.int .i64 v44.2.2.2.2.2.2.2)]), .cell true 23 (.agg [1, 1, 1, 1, 1, 1, 1, 1] [(.int .u8 v52.1), (.int .i64 v52.2.1), (.int .i64 v52.2.2.1), (.int .i64 v52.2.2.2.1), (.int .i64 v52.2.2.2.2.1), (.int .i64 v52.2.2.2.2.2.1), (.bool v52.2.2.2.2.2.2.1), (.int .i64 v52.2.2.2.2.2.2.2)])] }
  | .h6 v1 v23 v29 v43 v51 v59 v60 v61 =>
    { fr := { id := 25, kind := .top, T := [(.fsl (.int .u8) x), .any, (.ptr 0 []), .any, (.ptr 1 []), .any, .any, (.ptr 2 []), .any, (.ptr 3 []), (.ptr 4 []), (.int .i64 v1)] ++ List.replicate 4 .any ++ [(.ptr 5 [])] ++ List.replicate 132 .any, items := [.code (subc [1, 1, 1, 1, 1, 1, 1, 1, 1, 1, 1, 1, 1, 1, 0] (bodyOf Tryd.f25)), .code (subc [1, 1, 1, 1, 1, 1, 1, 1, 1, 1, 1, 1, 1, 1, 1] (bodyOf Tryd.f25))], D := [], base := 0 },
      stk := [],
      H := [.cell true 25 (.agg [1, 1, 1, 8, 8, 1, 1] [(.int .u8 0), (.int .u8 0), (.int .i64 0), (.agg [1, 1, 1, 1, 1, 1, 1, 1] [(.int .u8 0), (.int .i64 0), (.int .i64 0), (.int .i64 0), (.int .i64 0), (.int .i64 0), (.bool false), (.int .i64 0)]), (.agg [1, 1, 1, 1, 1, 1, 1, 1] [(.int .u8 0), (.int .i64 0), (.int .i64 0), (.int .i64 0), (.int .i64 0), (.int .i64 0), (.bool false), (.int .i64 0)]), (.int .u8 0), (.int .i64 0)]), .cell true 77 (.agg [1, 1, 1, 1, 1, 1] [(.int .u8 v23.1), (.bool v23.2.1), (.int .u8 v23.2.2.1), (.int .u8 v23.2.2.2.1), (.int .u8 v23.2.2.2.2.1), (.int .i64 v23.2.2.2.2.2)]), .cell true 51 (.agg [1, 1, 1, 1, 1, 1, 1, 1, 1, 1, 1, 1, 1, 1] [(.int .u8 v29.1), (.int .u8 v29.2.1), (.int .u8 v29.2.2.1), (.bool v29.2.2.2.1), (.int .i64 v29.2.2.2.2.1), (.int .u8 v29.2.2.2.2.2.1), (.int .u8 v29.2.2.2.2.2.2.1), (.int .i64 v29.2.2.2.2.2.2.2.1), (.int .u8 v29.2.2.2.2.2.2.2.2.1), (.int .i64 v29.2.2.2.2.2.2.2.2.2.1), (.bool v29.2.2.2.2.2.2.2.2.2.2.1), (.bool v29.2.2.2.2.2.2.2.2.2.2.2.1), (.bool v29.2.2.2.2.2.2.2.2.2.2.2.2.1), (.bool v29.2.2.2.2.2.2.2.2.2.2.2.2.2)]), .cell true 23 (.agg [1, 1, 1, 1, 1, 1, 1, 1] [(.int .u8 v43.1), (.int .i64 v43.2.1), (.int .i64 v43.2.2.1), (.int .i64 v43.2.2.2.1), (.int .i64 v43.2.2.2.2.1), (.int .i64 v43.2.2.2.2.2.1), (.bool v43.2.2.2.2.2.2.1), (.int .i64 v43.2.2.2.2.2.2.2)]), .cell true 23 (.agg [1, 1, 1, 1, 1, 1, 1, 1] [(.int .u8 v51.1), (.int .i64 v51.2.1), (.int .i64 v51.2.2.1), (.int .i64 v51.2.2.2.1), (.int .i64 v51.2.2.2.2.1), (.int .i64 v51.2.2.2.2.2.1), (.bool v51.2.2.2.2.2.2.1), (.int .i64 v51.2.2.2.2.2.2.2)]), .cell true 25 (.agg [1, 1, 1, 8, 8, 1, 1] [(.int .u8 v59), (.int .u8 v60), (.int .i64 v61), (.agg [1, 1, 1, 1, 1, 1, 1, 1] [(.int .u8 0), (.int .i64 0), (.int .i64 0), (.int .i64 0), (.int .i64 0), (.int .i64 0), (.bool false), (.int .i64 0)]), (.agg [1, 1, 1, 1, 1, 1, 1, 1] [(.int .u8 0), (.int .i64 0), (.int .i64 0), (.int .i64 0), (.int .i64 0), (.int .i64 0), (.bool false), (.int .i64 0)]), (.int .u8 0), (.int .i64 0)])] }
  | .h7 v0 v22 v36 =>
    { fr := { id := 25, kind := .top, T := [.any, .any, (.ptr 0 [])] ++ List.replicate 4 .any ++ [(.ptr 1 []), .any, .any, .any, (.int .i64 v0)] ++ List.replicate 4 .any ++ [(.ptr 2 [])] ++ List.replicate 132 .any, items := [.code (subc [1, 1, 1, 1, 1, 1, 1, 1, 1, 1, 1, 1, 1, 1, 1, 1, 1, 1, 0] (bodyOf Tryd.f25)), .code (subc [1, 1, 1, 1, 1, 1, 1, 1, 1, 1, 1, 1, 1, 1, 1, 1, 1, 1, 1] (bodyOf Tryd.f25))], D := [], base := 0 },
      stk := [],
      H := [.cell true 25 (.agg [1, 1, 1, 8, 8, 1, 1] [(.int .u8 0), (.int .u8 0), (.int .i64 0), (.agg [1, 1, 1, 1, 1, 1, 1, 1] [(.int .u8 0), (.int .i64 0), (.int .i64 0), (.int .i64 0), (.int .i64 0), (.int .i64 0), (.bool false), (.int .i64 0)]), (.agg [1, 1, 1, 1, 1, 1, 1, 1] [(.int .u8 0), (.int .i64 0), (.int .i64 0), (.int .i64 0), (.int .i64 0), (.int .i64 0), (.bool false), (.int .i64 0)]), (.int .u8 0), (.int .i64 0)]), .cell true 51 (.agg [1, 1, 1, 1, 1, 1, 1, 1, 1, 1, 1, 1, 1, 1] [(.int .u8 v22.1), (.int .u8 v22.2.1), (.int .u8 v22.2.2.1), (.bool v22.2.2.2.1), (.int .i64 v22.2.2.2.2.1), (.int .u8 v22.2.2.2.2.2.1), (.int .u8 v22.2.2.2.2.2.2.1), (.int .i64 v22.2.2.2.2.2.2.2.1), (.int .u8 v22.2.2.2.2.2.2.2.2.1), (.int .i64 v22.2.2.2.2.2.2.2.2.2.1), (.bool v22.2.2.2.2.2.2.2.2.2.2.1), (.bool v22.2.2.2.2.2.2.2.2.2.2.2.1), (.bool v22.2.2.2.2.2.2.2.2.2.2.2.2.1), (.bool v22.2.2.2.2.2.2.2.2.2.2.2.2.2)]), .cell true 25 (.agg [1, 1, 1, 8, 8, 1, 1] [(.int .u8 v36.1), (.int .u8 v36.2.1), (.int .i64 v36.2.2.1), (.agg [1, 1, 1, 1, 1, 1, 1, 1] [(.int .u8 v36.2.2.2.1.1), (.int .i64 v36.2.2.2.1.2.1), (.int .i64 v36.2.2.2.1.2.2.1), (.int .i64 v36.2.2.2.1.2.2.2.1), (.int .i64 v36.2.2.2.1.2.2.2.2.1), (.int .i64 v36.2.2.2.1.2.2.2.2.2.1), (.bool v36.2.2.2.1.2.2.2.2.2.2.1), (.int .i64 v36.2.2.2.1.2.2.2.2.2.2.2)]), (.agg [1, 1, 1, 1, 1, 1, 1, 1] [(.int .u8 v36.2.2.2.2.1.1), (.int .i64 v36.2.2.2.2.1.2.1), (.int .i64 v36.2.2.2.2.1.2.2.1), (.int .i64 v36.2.2.2.2.1.2.2.2.1), (.int .i64 v36.2.2.2.2.1.2.2.2.2.1), (.int .i64 v36.2.2.2.2.1.2.2.2.2.2.1), (.bool v36.2.2.2.2.1.2.2.2.2.2.2.1), (.int .i64 v36.2.2.2.2.1.2.2.2.2.2.2.2)]), (.int .u8 v36.2.2.2.2.2.1), (.int .i64 v36.2.2.2.2.2.2)])] }
noncomputable def stop25 : FuncId → Nat → Nat → Option Cut
  | 25, 9, 0 => some { tmps := [0, 2, 4], loops := [], dead := [], stk := [] }
  | 25, 15, 0 => some { tmps := [0, 2, 4, 6], loops := [], dead := [], stk := [] }
  | 25, 23, 0 => some { tmps := [0, 2, 4, 7, 8], loops := [], dead := [], stk := [] }
  | 25, 35, 0 => some { tmps := [0, 2, 4, 7, 8, 9, 10, 11, 12, 13, 14], loops := [], dead := [], stk := [] }
  | 25, 39, 0 => some { tmps := [0, 2, 4, 7, 8, 9, 10, 11], loops := [], dead := [], stk := [] }
  | 25, 43, 0 => some { tmps := [0, 2, 4, 7, 8, 9, 10, 11], loops := [], dead := [], stk := [] }
  | 25, 53, 0 => some { tmps := [0, 2, 4, 7, 9, 10, 11, 16], loops := [], dead := [], stk := [] }
  | 25, 63, 0 => some { tmps := [2, 7, 11, 16], loops := [], dead := [], stk := [] }
  | _, _, _ => none
noncomputable def fn25 (x : (List Int)) : (DInsn × Int) := endVal (TC.dflt (.st CInsn (.st1 (.int .i64)))) (step25 x) (tree25 x)
def pre25 (x : (List Int)) : Prop := ∃ r, Ends (step25 x) r (tree25 x)
noncomputable def spec25 : Spec := { dom := (.st1 (.slice (.int .u8))), cod := (.st CInsn (.st1 (.int .i64))), n := 2, pre := pre25, f := fn25 }
noncomputable def need25 : FuncId → Option Spec
  | 35 => some spec35
  | 47 => some spec47
  | 48 => some spec48
  | 49 => some spec49
  | 50 => some spec50
  | 51 => some spec51
  | 52 => some spec52
  | _ => none
theorem need25_ok : ∀ f sp, need25 f = some sp → SpecOk env0 f sp := by
  intro f sp h
  unfold need25 at h
  split at h
  · cases h; exact ok35
  · cases h; exact ok47
  · cases h; exact ok48
  · cases h; exact ok49
  · cases h; exact ok50
  · cases h; exact ok51
  · cases h; exact ok52
  · cases h
theorem run25 (W : Cfg) (Q : (DInsn × Int) → Prop) (x : (List Int)) : run (env need25 (fun _ _ => none)) stop25 (finS spec25 Q) W 100000 (startFr 25 Tryd.f25 (bodyOf Tryd.f25) (argsOf (.st1 (.slice (.int .u8))) x)) [] [] = (tree25 x).wp (kont W Q (head25 x)) := by kernel_rfl
theorem run25h0 (W : Cfg) (Q : (DInsn × Int) → Prop) (x : (List Int)) (v22 : Dhead) : run (env need25 (fun _ _ => none)) stop25 (finS spec25 Q) W 100000 (head25 x (.h0 v22)).fr.enter (head25 x (.h0 v22)).stk (head25 x (.h0 v22)).H = (step25 x (.h0 v22)).wp (kont W Q (head25 x)) := by kernel_rfl
theorem run25h1 (W : Cfg) (Q : (DInsn × Int) → Prop) (x : (List Int)) (v1 : Int) (v23 : Dhead) : run (env need25 (fun _ _ => none)) stop25 (finS spec25 Q) W 100000 (head25 x (.h1 v1 v23)).fr.enter (head25 x (.h1 v1 v23)).stk (head25 x (.h1 v1 v23)).H = (step25 x (.h1 v1 v23)).wp (kont W Q (head25 x)) := by kernel_rfl
theorem run25h2 (W : Cfg) (Q : (DInsn × Int) → Prop) (x : (List Int)) (v1 : Bool) (v23 : Dhead) (v29 : DForm) : run (env need25 (fun _ _ => none)) stop25 (finS spec25 Q) W 100000 (head25 x (.h2 v1 v23 v29)).fr.enter (head25 x (.h2 v1 v23 v29)).stk (head25 x (.h2 v1 v23 v29)).H = (step25 x (.h2 v1 v23 v29)).wp (kont W Q (head25 x)) := by kernel_rfl
theorem run25h3 (W : Cfg) (Q : (DInsn × Int) → Prop) (x : (List Int)) (v1 : Bool) (v2 : Int) (v3 : Int) (v25 : Dhead) (v31 : DForm) (v61 : DOperand) (v69 : DOperand) : run (env need25 (fun _ _ => none)) stop25 (finS spec25 Q) W 100000 (head25 x (.h3 v1 v2 v3 v25 v31 v61 v69)).fr.enter (head25 x (.h3 v1 v2 v3 v25 v31 v61 v69)).stk (head25 x (.h3 v1 v2 v3 v25 v31 v61 v69)).H = (step25 x (.h3 v1 v2 v3 v25 v31 v61 v69)).wp (kont W Q (head25 x)) := by kernel_rfl
theorem run25h4 (W : Cfg) (Q : (DInsn × Int) → Prop) (x : (List Int)) (v1 : Bool) (v2 : Int) (v24 : Dhead) (v30 : DForm) (v44 : DOperand) (v52 : DOperand) : run (env need25 (fun _ _ => none)) stop25 (finS spec25 Q) W 100000 (head25 x (.h4 v1 v2 v24 v30 v44 v52)).fr.enter (head25 x (.h4 v1 v2 v24 v30 v44 v52)).stk (head25 x (.h4 v1 v2 v24 v30 v44 v52)).H = (step25 x (.h4 v1 v2 v24 v30 v44 v52)).wp (kont W Q (head25 x)) := by kernel_rfl
theorem run25h5 (W : Cfg) (Q : (DInsn × Int) → Prop) (x : (List Int)) (v1 : Bool) (v2 : Int) (v24 : Dhead) (v30 : DForm) (v44 : DOperand) (v52 : DOperand) : run (env need25 (fun _ _ => none)) stop25 (finS spec25 Q) W 100000 (head25 x (.h5 v1 v2 v24 v30 v44 v52)).fr.enter (head25 x (.h5 v1 v2 v24 v30 v44 v52)).stk (head25 x (.h5 v1 v2 v24 v30 v44 v52)).H = (step25 x (.h5 v1 v2 v24 v30 v44 v52)).wp (kont W Q (head25 x)) := by kernel_rfl
theorem run25h6 (W : Cfg) (Q : (DInsn × Int) → Prop) (x : (List Int)) (v1 : Int) (v23 : Dhead) (v29 : DForm) (v43 : DOperand) (v51 : DOperand) (v59 : Int) (v60 : Int) (v61 : Int) : run (env need25 (fun _ _ => none)) stop25 (finS spec25 Q) W 100000 (head25 x (.h6 v1 v23 v29 v43 v51 v59 v60 v61)).fr.enter (head25 x (.h6 v1 v23 v29 v43 v51 v59 v60 v61)).stk (head25 x (.h6 v1 v23 v29 v43 v51 v59 v60 v61)).H = (step25 x (.h6 v1 v23 v29 v43 v51 v59 v60 v61)).wp (kont W Q (head25 x)) := by kernel_rfl
theorem run25h7 (W : Cfg) (Q : (DInsn × Int) → Prop) (x : (List Int)) (v0 : Int) (v22 : DForm) (v36 : DInsn) : run (env need25 (fun _ _ => none)) stop25 (finS spec25 Q) W 100000 (head25 x (.h7 v0 v22 v36)).fr.enter (head25 x (.h7 v0 v22 v36)).stk (head25 x (.h7 v0 v22 v36)).H = (step25 x (.h7 v0 v22 v36)).wp (kont W Q (head25 x)) := by kernel_rfl
theorem runs25 (W : Cfg) (Q : (DInsn × Int) → Prop) (x : (List Int)) : ∀ j : J25, run (env need25 (fun _ _ => none)) stop25 (finS spec25 Q) W 100000 (head25 x j).fr.enter (head25 x j).stk (head25 x j).H = (step25 x j).wp (kont W Q (head25 x))
  | .h0 v22 => run25h0 W Q x v22
  | .h1 v1 v23 => run25h1 W Q x v1 v23
  | .h2 v1 v23 v29 => run25h2 W Q x v1 v23 v29
  | .h3 v1 v2 v3 v25 v31 v61 v69 => run25h3 W Q x v1 v2 v3 v25 v31 v61 v69
  | .h4 v1 v2 v24 v30 v44 v52 => run25h4 W Q x v1 v2 v24 v30 v44 v52
  | .h5 v1 v2 v24 v30 v44 v52 => run25h5 W Q x v1 v2 v24 v30 v44 v52
  | .h6 v1 v23 v29 v43 v51 v59 v60 v61 => run25h6 W Q x v1 v23 v29 v43 v51 v59 v60 v61
  | .h7 v0 v22 v36 => run25h7 W Q x v0 v22 v36
theorem ok25 : SpecOk env0 25 spec25 := SpecOk.env rfl (fun _ _ h => h) (spec_of_trees (E := (env need25 (fun _ _ => none))) (sp := spec25) (valid _ _) (fun f sp h => SpecOk.env rfl (fun _ _ h => h) (need25_ok f sp h)) (fn := Tryd.f25) (c := (bodyOf Tryd.f25)) (by kernel_rfl) (by kernel_rfl) tree25 step25 head25 run25 runs25 (fun _ h => endVal_ends h))

/-! ### (*sundial/decode.reader).ahead$1 -/
noncomputable def tree89 (x : Int) : Tr Bool :=
  .need ((0 : Int) ≤ 4) <|
  .ret (ieq (ishr .u8 x 4) 4)
noncomputable def fn89 (x : Int) : Bool := (tree89 x).val
def pre89 (x : Int) : Prop := (tree89 x).ok
noncomputable def spec89 : Spec := { dom := (.st1 (.int .u8)), cod := .bool, n := 1, pre := pre89, f := fn89 }
noncomputable def need89 : FuncId → Option Spec
  | _ => none
theorem need89_ok : ∀ f sp, need89 f = some sp → SpecOk env0 f sp := by
  intro f sp h
  unfold need89 at h
  split at h
  · cases h
theorem run89 (W : Cfg) (Q : Bool → Prop) (x : Int) : run (env need89 (fun _ _ => none)) (fun _ _ _ => none) (finS spec89 Q) W 100000 (startFr 89 Tryd.f89 (bodyOf Tryd.f89) (argsOf (.st1 (.int .u8)) x)) [] [] = (tree89 x).wp Q := by kernel_rfl
theorem ok89 : SpecOk env0 89 spec89 := SpecOk.env rfl (fun _ _ h => h) (spec_of_tree (E := (env need89 (fun _ _ => none))) (sp := spec89) (valid _ _) (fun f sp h => SpecOk.env rfl (fun _ _ h => h) (need89_ok f sp h)) (fn := Tryd.f89) (c := (bodyOf Tryd.f89)) (by kernel_rfl) (by kernel_rfl) tree89 run89 (fun _ h => Tr.gives_val h))

/-! ### (*sundial/decode.reader).ahead$2 -/
noncomputable def tree90 (_x : Int) : Tr Bool :=
  .ret true
noncomputable def fn90 (x : Int) : Bool := (tree90 x).val
def pre90 (x : Int) : Prop := (tree90 x).ok
noncomputable def spec90 : Spec := { dom := (.st1 (.int .u8)), cod := .bool, n := 1, pre := pre90, f := fn90 }
noncomputable def need90 : FuncId → Option Spec
  | _ => none
theorem need90_ok : ∀ f sp, need90 f = some sp → SpecOk env0 f sp := by
  intro f sp h
  unfold need90 at h
  split at h
  · cases h
theorem run90 (W : Cfg) (Q : Bool → Prop) (x : Int) : run (env need90 (fun _ _ => none)) (fun _ _ _ => none) (finS spec90 Q) W 100000 (startFr 90 Tryd.f90 (bodyOf Tryd.f90) (argsOf (.st1 (.int .u8)) x)) [] [] = (tree90 x).wp Q := by kernel_rfl
theorem ok90 : SpecOk env0 90 spec90 := SpecOk.env rfl (fun _ _ h => h) (spec_of_tree (E := (env need90 (fun _ _ => none))) (sp := spec90) (valid _ _) (fun f sp h => SpecOk.env rfl (fun _ _ h => h) (need90_ok f sp h)) (fn := Tryd.f90) (c := (bodyOf Tryd.f90)) (by kernel_rfl) (by kernel_rfl) tree90 run90 (fun _ h => Tr.gives_val h))

/-! ### sundial/codes.moves$1 -/
noncomputable def tree167 (x : (Int × (Int × Int))) : Tr DForm :=
  let y0 : Int := x.2.1
  .ret (0, (0, (x.1, (false, (0, (1, (0, (y0, (4, (x.2.2, (false, (false, ((ieq y0 1), false)))))))))))))
noncomputable def fn167 (x : (Int × (Int × Int))) : DForm := (tree167 x).val
def pre167 (x : (Int × (Int × Int))) : Prop := (tree167 x).ok
noncomputable def spec167 : Spec := { dom := (.st (.int .u8) (.st (.int .i64) (.st1 (.int .i64)))), cod := CForm, n := 1, pre := pre167, f := fn167 }
noncomputable def need167 : FuncId → Option Spec
  | _ => none
theorem need167_ok : ∀ f sp, need167 f = some sp → SpecOk env0 f sp := by
  intro f sp h
  unfold need167 at h
  split at h
  · cases h
theorem run167 (W : Cfg) (Q : DForm → Prop) (x : (Int × (Int × Int))) : run (env need167 (fun _ _ => none)) (fun _ _ _ => none) (finS spec167 Q) W 100000 (startFr 167 Tryd.f167 (bodyOf Tryd.f167) (argsOf (.st (.int .u8) (.st (.int .i64) (.st1 (.int .i64)))) x)) [] [] = (tree167 x).wp Q := by kernel_rfl
theorem ok167 : SpecOk env0 167 spec167 := SpecOk.env rfl (fun _ _ h => h) (spec_of_tree (E := (env need167 (fun _ _ => none))) (sp := spec167) (valid _ _) (fun f sp h => SpecOk.env rfl (fun _ _ h => h) (need167_ok f sp h)) (fn := Tryd.f167) (c := (bodyOf Tryd.f167)) (by kernel_rfl) (by kernel_rfl) tree167 run167 (fun _ h => Tr.gives_val h))

end Go.Eng.RD
end
