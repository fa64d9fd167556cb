/- A part of the proof that the laws of this seat hold. Conditions: none beyond the row. -/
import Derived.Test.YtjcnpofhdfpohaaDoorEng1
import Derived.Test.YtjcnpofhdfpohaaDoorProg
import Derived.KernelRfl
import Derived.Lib.LaidTab
section
/- The tables of this program, and that they are right. -/
namespace Go.Eng.RA
open Go.Proofs Go.Eng
set_option maxRecDepth 100000

noncomputable def ty : TypeId → Option ATy
  | 1 => some { desc := Tryd.t1.desc, size := 1, bytes := 8, zero := (.raw .nilFunc), code := none }
  | 2 => some { desc := (.int .i64), size := 1, bytes := 8, zero := (.int .i64 0), code := (some (.int .i64)) }
  | 3 => some { desc := (.int .i64), size := 1, bytes := 8, zero := (.int .i64 0), code := (some (.int .i64)) }
  | 4 => some { desc := .bool, size := 1, bytes := 1, zero := (.bool false), code := (some .bool) }
  | 5 => some { desc := (.int .u8), size := 1, bytes := 1, zero := (.int .u8 0), code := (some (.int .u8)) }
  | 6 => some { desc := (.int .u8), size := 1, bytes := 1, zero := (.int .u8 0), code := (some (.int .u8)) }
  | 7 => some { desc := Tryd.t7.desc, size := 4, bytes := 24, zero := (.agg [1, 1, 1, 1] [(.int .i64 0), (.int .i64 0), (.bool false), (.int .u8 0)]), code := (some (.st (.int .i64) (.st (.int .i64) (.st .bool (.st1 (.int .u8)))))) }
  | 8 => some { desc := Tryd.t7.desc, size := 4, bytes := 24, zero := (.agg [1, 1, 1, 1] [(.int .i64 0), (.int .i64 0), (.bool false), (.int .u8 0)]), code := (some (.st (.int .i64) (.st (.int .i64) (.st .bool (.st1 (.int .u8)))))) }
  | 9 => some { desc := .string, size := 1, bytes := 16, zero := (.str ByteArray.empty), code := (some .str) }
  | 10 => some { desc := .string, size := 1, bytes := 16, zero := (.str ByteArray.empty), code := (some .str) }
  | 11 => some { desc := .string, size := 1, bytes := 16, zero := (.str ByteArray.empty), code := (some .str) }
  | 12 => some { desc := (.int .u64), size := 1, bytes := 8, zero := (.int .u64 0), code := (some (.int .u64)) }
  | 13 => some { desc := Tryd.t13.desc, size := 2, bytes := 24, zero := (.agg [1, 1] [(.str ByteArray.empty), (.int .u64 0)]), code := (some (.st .str (.st1 (.int .u64)))) }
  | 14 => some { desc := Tryd.t13.desc, size := 2, bytes := 24, zero := (.agg [1, 1] [(.str ByteArray.empty), (.int .u64 0)]), code := (some (.st .str (.st1 (.int .u64)))) }
  | 15 => some { desc := (.pointer 84), size := 1, bytes := 8, zero := (.raw (.pointer none)), code := none }
  | 16 => some { desc := (.pointer 87), size := 1, bytes := 8, zero := (.raw (.pointer none)), code := none }
  | 17 => some { desc := (.pointer 97), size := 1, bytes := 8, zero := (.raw (.pointer none)), code := none }
  | 18 => some { desc := Tryd.t18.desc, size := 1, bytes := 8, zero := (.agg [1] [(.raw (.pointer none))]), code := none }
  | 19 => some { desc := Tryd.t18.desc, size := 1, bytes := 8, zero := (.agg [1] [(.raw (.pointer none))]), code := none }
  | 20 => some { desc := Tryd.t20.desc, size := 1, bytes := 16, zero := (.raw .nilIface), code := none }
  | 21 => some { desc := (.int .i32), size := 1, bytes := 4, zero := (.int .i32 0), code := (some (.int .i32)) }
  | 22 => some { desc := (.int .u64), size := 1, bytes := 8, zero := (.int .u64 0), code := (some (.int .u64)) }
  | 23 => some { desc := Tryd.t23.desc, size := 1, bytes := 8, zero := (.raw .nilFunc), code := none }
  | 24 => some { desc := Tryd.t24.desc, size := 1, bytes := 8, zero := (.raw .nilFunc), code := none }
  | 26 => some { desc := Tryd.t26.desc, size := 1, bytes := 8, zero := (.raw .nilFunc), code := none }
  | 27 => some { desc := Tryd.t27.desc, size := 1, bytes := 8, zero := (.raw .nilFunc), code := none }
  | 28 => some { desc := Tryd.t28.desc, size := 1, bytes := 8, zero := (.raw .nilFunc), code := none }
  | 29 => some { desc := (.int .u64), size := 1, bytes := 8, zero := (.int .u64 0), code := (some (.int .u64)) }
  | 30 => some { desc := Tryd.t30.desc, size := 1, bytes := 8, zero := (.raw .nilFunc), code := none }
  | 31 => some { desc := (.slice 5), size := 1, bytes := 24, zero := (.raw (.slice none 0 0)), code := (some (.slice (.int .u8))) }
  | 32 => some { desc := Tryd.t32.desc, size := 1, bytes := 8, zero := (.raw .nilFunc), code := none }
  | 33 => some { desc := Tryd.t33.desc, size := 1, bytes := 8, zero := (.raw .nilFunc), code := none }
  | 34 => some { desc := Tryd.t34.desc, size := 1, bytes := 8, zero := (.raw .nilFunc), code := none }
  | 35 => some { desc := Tryd.t35.desc, size := 1, bytes := 8, zero := (.raw .nilFunc), code := none }
  | 36 => some { desc := Tryd.t36.desc, size := 1, bytes := 8, zero := (.raw .nilFunc), code := none }
  | 38 => some { desc := Tryd.t38.desc, size := 1, bytes := 8, zero := (.raw .nilFunc), code := none }
  | 39 => some { desc := Tryd.t39.desc, size := 5, bytes := 5, zero := (.agg [1, 1, 1, 1, 1] [(.bool false), (.bool false), (.bool false), (.bool false), (.bool false)]), code := (some (.st .bool (.st .bool (.st .bool (.st .bool (.st1 .bool)))))) }
  | 40 => some { desc := Tryd.t39.desc, size := 5, bytes := 5, zero := (.agg [1, 1, 1, 1, 1] [(.bool false), (.bool false), (.bool false), (.bool false), (.bool false)]), code := (some (.st .bool (.st .bool (.st .bool (.st .bool (.st1 .bool)))))) }
  | 42 => some { desc := Tryd.t42.desc, size := 1, bytes := 8, zero := (.raw .nilFunc), code := none }
  | 43 => some { desc := Tryd.t43.desc, size := 1, bytes := 8, zero := (.raw .nilFunc), code := none }
  | 45 => some { desc := Tryd.t45.desc, size := 1, bytes := 8, zero := (.raw .nilFunc), code := none }
  | 46 => some { desc := Tryd.t46.desc, size := 1, bytes := 8, zero := (.raw .nilFunc), code := none }
  | 47 => some { desc := Tryd.t47.desc, size := 1, bytes := 8, zero := (.raw .nilFunc), code := none }
  | 48 => some { desc := Tryd.t48.desc, size := 1, bytes := 8, zero := (.raw .nilFunc), code := none }
  | 49 => some { desc := Tryd.t49.desc, size := 1, bytes := 8, zero := (.raw .nilFunc), code := none }
  | 50 => some { desc := Tryd.t50.desc, size := 1, bytes := 8, zero := (.raw .nilFunc), code := none }
  | 51 => some { desc := Tryd.t51.desc, size := 1, bytes := 8, zero := (.raw .nilFunc), code := none }
  | 52 => some { desc := Tryd.t52.desc, size := 1, bytes := 8, zero := (.raw .nilFunc), code := none }
  | 53 => some { desc := Tryd.t53.desc, size := 1, bytes := 8, zero := (.raw .nilFunc), code := none }
  | 54 => some { desc := Tryd.t54.desc, size := 1, bytes := 8, zero := (.raw .nilFunc), code := none }
  | 55 => some { desc := Tryd.t55.desc, size := 1, bytes := 8, zero := (.raw .nilFunc), code := none }
  | 57 => some { desc := Tryd.t57.desc, size := 1, bytes := 8, zero := (.raw .nilFunc), code := none }
  | 58 => some { desc := Tryd.t58.desc, size := 1, bytes := 8, zero := (.raw .nilFunc), code := none }
  | 59 => some { desc := Tryd.t59.desc, size := 1, bytes := 8, zero := (.raw .nilFunc), code := none }
  | 60 => some { desc := Tryd.t59.desc, size := 1, bytes := 8, zero := (.raw .nilFunc), code := none }
  | 61 => some { desc := Tryd.t61.desc, size := 1, bytes := 8, zero := (.raw .nilFunc), code := none }
  | 62 => some { desc := Tryd.t62.desc, size := 1, bytes := 8, zero := (.raw .nilFunc), code := none }
  | 63 => some { desc := Tryd.t63.desc, size := 1, bytes := 8, zero := (.raw .nilFunc), code := none }
  | 64 => some { desc := Tryd.t64.desc, size := 1, bytes := 8, zero := (.raw .nilFunc), code := none }
  | 65 => some { desc := Tryd.t65.desc, size := 1, bytes := 8, zero := (.raw .nilFunc), code := none }
  | 67 => some { desc := (.map 5 65), size := 1, bytes := 8, zero := (.raw (.map none)), code := none }
  | 68 => some { desc := Tryd.t68.desc, size := 1, bytes := 8, zero := (.raw .nilFunc), code := none }
  | 69 => some { desc := Tryd.t69.desc, size := 1, bytes := 8, zero := (.raw .nilFunc), code := none }
  | 70 => some { desc := (.array 9 22), size := 9, bytes := 72, zero := (.arr 9 (.int .u64) (List.replicate 9 (0 : Int))), code := (some (.arr 9 (.int .u64))) }
  | 71 => some { desc := Tryd.t71.desc, size := 1, bytes := 8, zero := (.raw .nilFunc), code := none }
  | 72 => some { desc := Tryd.t72.desc, size := 1, bytes := 16, zero := (.raw .nilIface), code := none }
  | 73 => some { desc := Tryd.t72.desc, size := 1, bytes := 16, zero := (.raw .nilIface), code := none }
  | 74 => some { desc := Tryd.t74.desc, size := 1, bytes := 8, zero := (.raw .nilFunc), code := none }
  | 75 => some { desc := Tryd.t75.desc, size := 1, bytes := 8, zero := (.raw .nilFunc), code := none }
  | 77 => some { desc := Tryd.t77.desc, size := 1, bytes := 8, zero := (.raw .nilFunc), code := none }
  | 78 => some { desc := Tryd.t78.desc, size := 1, bytes := 8, zero := (.raw .nilFunc), code := none }
  | 79 => some { desc := Tryd.t78.desc, size := 1, bytes := 8, zero := (.raw .nilFunc), code := none }
  | 80 => some { desc := Tryd.t80.desc, size := 1, bytes := 8, zero := (.raw .nilFunc), code := none }
  | 81 => some { desc := Tryd.t81.desc, size := 1, bytes := 8, zero := (.raw .nilFunc), code := none }
  | 82 => some { desc := Tryd.t82.desc, size := 1, bytes := 8, zero := (.raw .nilFunc), code := none }
  | 83 => some { desc := Tryd.t83.desc, size := 4, bytes := 40, zero := (.agg [1, 1, 1, 1] [(.raw (.pointer none)), (.raw (.pointer none)), (.raw (.pointer none)), (.str ByteArray.empty)]), code := none }
  | 84 => some { desc := Tryd.t83.desc, size := 4, bytes := 40, zero := (.agg [1, 1, 1, 1] [(.raw (.pointer none)), (.raw (.pointer none)), (.raw (.pointer none)), (.str ByteArray.empty)]), code := none }
  | 88 => some { desc := Tryd.t88.desc, size := 1, bytes := 8, zero := (.raw .nilFunc), code := none }
  | 89 => some { desc := (.int .u32), size := 1, bytes := 4, zero := (.int .u32 0), code := (some (.int .u32)) }
  | 90 => some { desc := (.int .u8), size := 1, bytes := 1, zero := (.int .u8 0), code := (some (.int .u8)) }
  | 91 => some { desc := (.int .u8), size := 1, bytes := 1, zero := (.int .u8 0), code := (some (.int .u8)) }
  | 92 => some { desc := Tryd.t92.desc, size := 1, bytes := 8, zero := (.raw .nilFunc), code := none }
  | 93 => some { desc := (.pointer 5), size := 1, bytes := 8, zero := (.raw (.pointer none)), code := none }
  | 94 => some { desc := (.int .i32), size := 1, bytes := 4, zero := (.int .i32 0), code := (some (.int .i32)) }
  | 95 => some { desc := (.int .i32), size := 1, bytes := 4, zero := (.int .i32 0), code := (some (.int .i32)) }
  | 96 => some { desc := Tryd.t96.desc, size := 11, bytes := 48, zero := (.agg [1, 1, 1, 1, 1, 1, 1, 1, 1, 1, 1] [(.int .u64 0), (.int .u64 0), (.int .u32 0), (.int .u8 0), (.int .u8 0), (.int .u8 0), (.int .u8 0), (.raw .nilFunc), (.raw (.pointer none)), (.int .i32 0), (.int .i32 0)]), code := none }
  | 97 => some { desc := Tryd.t96.desc, size := 11, bytes := 48, zero := (.agg [1, 1, 1, 1, 1, 1, 1, 1, 1, 1, 1] [(.int .u64 0), (.int .u64 0), (.int .u32 0), (.int .u8 0), (.int .u8 0), (.int .u8 0), (.int .u8 0), (.raw .nilFunc), (.raw (.pointer none)), (.int .i32 0), (.int .i32 0)]), code := none }
  | _ => none

theorem ty_ok : ∀ t d, ty t = some d → d.ok Tryd.prog t := by
  intro t d h
  unfold ty at h
  split at h
  · cases h; exact ATy.ok_of (i := Tryd.t1) Tryd.underlying1 Tryd.type1 rfl (by kernel_rfl)
  · cases h; exact ATy.ok_of (i := Tryd.t2) Tryd.underlying2 Tryd.type2 rfl (by kernel_rfl)
  · cases h; exact ATy.ok_of (i := Tryd.t3) Tryd.underlying3 Tryd.type3 rfl (by kernel_rfl)
  · cases h; exact ATy.ok_of (i := Tryd.t4) Tryd.underlying4 Tryd.type4 rfl (by kernel_rfl)
  · cases h; exact ATy.ok_of (i := Tryd.t5) Tryd.underlying5 Tryd.type5 rfl (by kernel_rfl)
  · cases h; exact ATy.ok_of (i := Tryd.t6) Tryd.underlying6 Tryd.type6 rfl (by kernel_rfl)
  · cases h; exact ATy.ok_of (i := Tryd.t7) Tryd.underlying7 Tryd.type7 rfl (by kernel_rfl)
  · cases h; exact ATy.ok_of (i := Tryd.t8) Tryd.underlying8 Tryd.type8 rfl (by kernel_rfl)
  · cases h; exact ATy.ok_of (i := Tryd.t9) Tryd.underlying9 Tryd.type9 rfl (by kernel_rfl)
  · cases h; exact ATy.ok_of (i := Tryd.t10) Tryd.underlying10 Tryd.type10 rfl (by kernel_rfl)
  · cases h; exact ATy.ok_of (i := Tryd.t11) Tryd.underlying11 Tryd.type11 rfl (by kernel_rfl)
  · cases h; exact ATy.ok_of (i := Tryd.t12) Tryd.underlying12 Tryd.type12 rfl (by kernel_rfl)
  · cases h; exact ATy.ok_of (i := Tryd.t13) Tryd.underlying13 Tryd.type13 rfl (by kernel_rfl)
  · cases h; exact ATy.ok_of (i := Tryd.t14) Tryd.underlying14 Tryd.type14 rfl (by kernel_rfl)
  · cases h; exact ATy.ok_of (i := Tryd.t15) Tryd.underlying15 Tryd.type15 rfl (by kernel_rfl)
  · cases h; exact ATy.ok_of (i := Tryd.t16) Tryd.underlying16 Tryd.type16 rfl (by kernel_rfl)
  · cases h; exact ATy.ok_of (i := Tryd.t17) Tryd.underlying17 Tryd.type17 rfl (by kernel_rfl)
  · cases h; exact ATy.ok_of (i := Tryd.t18) Tryd.underlying18 Tryd.type18 rfl (by kernel_rfl)
  · cases h; exact ATy.ok_of (i := Tryd.t19) Tryd.underlying19 Tryd.type19 rfl (by kernel_rfl)
  · cases h; exact ATy.ok_of (i := Tryd.t20) Tryd.underlying20 Tryd.type20 rfl (by kernel_rfl)
  · cases h; exact ATy.ok_of (i := Tryd.t21) Tryd.underlying21 Tryd.type21 rfl (by kernel_rfl)
  · cases h; exact ATy.ok_of (i := Tryd.t22) Tryd.underlying22 Tryd.type22 rfl (by kernel_rfl)
  · cases h; exact ATy.ok_of (i := Tryd.t23) Tryd.underlying23 Tryd.type23 rfl (by kernel_rfl)
  · cases h; exact ATy.ok_of (i := Tryd.t24) Tryd.underlying24 Tryd.type24 rfl (by kernel_rfl)
  · cases h; exact ATy.ok_of (i := Tryd.t26) Tryd.underlying26 Tryd.type26 rfl (by kernel_rfl)
  · cases h; exact ATy.ok_of (i := Tryd.t27) Tryd.underlying27 Tryd.type27 rfl (by kernel_rfl)
  · cases h; exact ATy.ok_of (i := Tryd.t28) Tryd.underlying28 Tryd.type28 rfl (by kernel_rfl)
  · cases h; exact ATy.ok_of (i := Tryd.t29) Tryd.underlying29 Tryd.type29 rfl (by kernel_rfl)
  · cases h; exact ATy.ok_of (i := Tryd.t30) Tryd.underlying30 Tryd.type30 rfl (by kernel_rfl)
  · cases h; exact ATy.ok_of (i := Tryd.t31) Tryd.underlying31 Tryd.type31 rfl (by kernel_rfl)
  · cases h; exact ATy.ok_of (i := Tryd.t32) Tryd.underlying32 Tryd.type32 rfl (by kernel_rfl)
  · cases h; exact ATy.ok_of (i := Tryd.t33) Tryd.underlying33 Tryd.type33 rfl (by kernel_rfl)
  · cases h; exact ATy.ok_of (i := Tryd.t34) Tryd.underlying34 Tryd.type34 rfl (by kernel_rfl)
  · cases h; exact ATy.ok_of (i := Tryd.t35) Tryd.underlying35 Tryd.type35 rfl (by kernel_rfl)
  · cases h; exact ATy.ok_of (i := Tryd.t36) Tryd.underlying36 Tryd.type36 rfl (by kernel_rfl)
  · cases h; exact ATy.ok_of (i := Tryd.t38) Tryd.underlying38 Tryd.type38 rfl (by kernel_rfl)
  · cases h; exact ATy.ok_of (i := Tryd.t39) Tryd.underlying39 Tryd.type39 rfl (by kernel_rfl)
  · cases h; exact ATy.ok_of (i := Tryd.t40) Tryd.underlying40 Tryd.type40 rfl (by kernel_rfl)
  · cases h; exact ATy.ok_of (i := Tryd.t42) Tryd.underlying42 Tryd.type42 rfl (by kernel_rfl)
  · cases h; exact ATy.ok_of (i := Tryd.t43) Tryd.underlying43 Tryd.type43 rfl (by kernel_rfl)
  · cases h; exact ATy.ok_of (i := Tryd.t45) Tryd.underlying45 Tryd.type45 rfl (by kernel_rfl)
  · cases h; exact ATy.ok_of (i := Tryd.t46) Tryd.underlying46 Tryd.type46 rfl (by kernel_rfl)
  · cases h; exact ATy.ok_of (i := Tryd.t47) Tryd.underlying47 Tryd.type47 rfl (by kernel_rfl)
  · cases h; exact ATy.ok_of (i := Tryd.t48) Tryd.underlying48 Tryd.type48 rfl (by kernel_rfl)
  · cases h; exact ATy.ok_of (i := Tryd.t49) Tryd.underlying49 Tryd.type49 rfl (by kernel_rfl)
  · cases h; exact ATy.ok_of (i := Tryd.t50) Tryd.underlying50 Tryd.type50 rfl (by kernel_rfl)
  · cases h; exact ATy.ok_of (i := Tryd.t51) Tryd.underlying51 Tryd.type51 rfl (by kernel_rfl)
  · cases h; exact ATy.ok_of (i := Tryd.t52) Tryd.underlying52 Tryd.type52 rfl (by kernel_rfl)
  · cases h; exact ATy.ok_of (i := Tryd.t53) Tryd.underlying53 Tryd.type53 rfl (by kernel_rfl)
  · cases h; exact ATy.ok_of (i := Tryd.t54) Tryd.underlying54 Tryd.type54 rfl (by kernel_rfl)
  · cases h; exact ATy.ok_of (i := Tryd.t55) Tryd.underlying55 Tryd.type55 rfl (by kernel_rfl)
  · cases h; exact ATy.ok_of (i := Tryd.t57) Tryd.underlying57 Tryd.type57 rfl (by kernel_rfl)
  · cases h; exact ATy.ok_of (i := Tryd.t58) Tryd.underlying58 Tryd.type58 rfl (by kernel_rfl)
  · cases h; exact ATy.ok_of (i := Tryd.t59) Tryd.underlying59 Tryd.type59 rfl (by kernel_rfl)
  · cases h; exact ATy.ok_of (i := Tryd.t60) Tryd.underlying60 Tryd.type60 rfl (by kernel_rfl)
  · cases h; exact ATy.ok_of (i := Tryd.t61) Tryd.underlying61 Tryd.type61 rfl (by kernel_rfl)
  · cases h; exact ATy.ok_of (i := Tryd.t62) Tryd.underlying62 Tryd.type62 rfl (by kernel_rfl)
  · cases h; exact ATy.ok_of (i := Tryd.t63) Tryd.underlying63 Tryd.type63 rfl (by kernel_rfl)
  · cases h; exact ATy.ok_of (i := Tryd.t64) Tryd.underlying64 Tryd.type64 rfl (by kernel_rfl)
  · cases h; exact ATy.ok_of (i := Tryd.t65) Tryd.underlying65 Tryd.type65 rfl (by kernel_rfl)
  · cases h; exact ATy.ok_of (i := Tryd.t67) Tryd.underlying67 Tryd.type67 rfl (by kernel_rfl)
  · cases h; exact ATy.ok_of (i := Tryd.t68) Tryd.underlying68 Tryd.type68 rfl (by kernel_rfl)
  · cases h; exact ATy.ok_of (i := Tryd.t69) Tryd.underlying69 Tryd.type69 rfl (by kernel_rfl)
  · cases h; exact ATy.ok_of (i := Tryd.t70) Tryd.underlying70 Tryd.type70 rfl (by kernel_rfl)
  · cases h; exact ATy.ok_of (i := Tryd.t71) Tryd.underlying71 Tryd.type71 rfl (by kernel_rfl)
  · cases h; exact ATy.ok_of (i := Tryd.t72) Tryd.underlying72 Tryd.type72 rfl (by kernel_rfl)
  · cases h; exact ATy.ok_of (i := Tryd.t73) Tryd.underlying73 Tryd.type73 rfl (by kernel_rfl)
  · cases h; exact ATy.ok_of (i := Tryd.t74) Tryd.underlying74 Tryd.type74 rfl (by kernel_rfl)
  · cases h; exact ATy.ok_of (i := Tryd.t75) Tryd.underlying75 Tryd.type75 rfl (by kernel_rfl)
  · cases h; exact ATy.ok_of (i := Tryd.t77) Tryd.underlying77 Tryd.type77 rfl (by kernel_rfl)
  · cases h; exact ATy.ok_of (i := Tryd.t78) Tryd.underlying78 Tryd.type78 rfl (by kernel_rfl)
  · cases h; exact ATy.ok_of (i := Tryd.t79) Tryd.underlying79 Tryd.type79 rfl (by kernel_rfl)
  · cases h; exact ATy.ok_of (i := Tryd.t80) Tryd.underlying80 Tryd.type80 rfl (by kernel_rfl)
  · cases h; exact ATy.ok_of (i := Tryd.t81) Tryd.underlying81 Tryd.type81 rfl (by kernel_rfl)
  · cases h; exact ATy.ok_of (i := Tryd.t82) Tryd.underlying82 Tryd.type82 rfl (by kernel_rfl)
  · cases h; exact ATy.ok_of (i := Tryd.t83) Tryd.underlying83 Tryd.type83 rfl (by kernel_rfl)
  · cases h; exact ATy.ok_of (i := Tryd.t84) Tryd.underlying84 Tryd.type84 rfl (by kernel_rfl)
  · cases h; exact ATy.ok_of (i := Tryd.t88) Tryd.underlying88 Tryd.type88 rfl (by kernel_rfl)
  · cases h; exact ATy.ok_of (i := Tryd.t89) Tryd.underlying89 Tryd.type89 rfl (by kernel_rfl)
  · cases h; exact ATy.ok_of (i := Tryd.t90) Tryd.underlying90 Tryd.type90 rfl (by kernel_rfl)
  · cases h; exact ATy.ok_of (i := Tryd.t91) Tryd.underlying91 Tryd.type91 rfl (by kernel_rfl)
  · cases h; exact ATy.ok_of (i := Tryd.t92) Tryd.underlying92 Tryd.type92 rfl (by kernel_rfl)
  · cases h; exact ATy.ok_of (i := Tryd.t93) Tryd.underlying93 Tryd.type93 rfl (by kernel_rfl)
  · cases h; exact ATy.ok_of (i := Tryd.t94) Tryd.underlying94 Tryd.type94 rfl (by kernel_rfl)
  · cases h; exact ATy.ok_of (i := Tryd.t95) Tryd.underlying95 Tryd.type95 rfl (by kernel_rfl)
  · cases h; exact ATy.ok_of (i := Tryd.t96) Tryd.underlying96 Tryd.type96 rfl (by kernel_rfl)
  · cases h; exact ATy.ok_of (i := Tryd.t97) Tryd.underlying97 Tryd.type97 rfl (by kernel_rfl)
  · cases h

noncomputable def fns : FuncId → Option Func
  | 3 => some Tryd.f3
  | 4 => some Tryd.f4
  | 5 => some Tryd.f5
  | 6 => some Tryd.f6
  | 7 => some Tryd.f7
  | 8 => some Tryd.f8
  | 9 => some Tryd.f9
  | 10 => some Tryd.f10
  | 11 => some Tryd.f11
  | 12 => some Tryd.f12
  | 13 => some Tryd.f13
  | 14 => some Tryd.f14
  | 15 => some Tryd.f15
  | 16 => some Tryd.f16
  | 17 => some Tryd.f17
  | 18 => some Tryd.f18
  | 19 => some Tryd.f19
  | 20 => some Tryd.f20
  | 21 => some Tryd.f21
  | 22 => some Tryd.f22
  | 23 => some Tryd.f23
  | 24 => some Tryd.f24
  | 25 => some Tryd.f25
  | 26 => some Tryd.f26
  | 27 => some Tryd.f27
  | 28 => some Tryd.f28
  | 29 => some Tryd.f29
  | 30 => some Tryd.f30
  | 31 => some Tryd.f31
  | 32 => some Tryd.f32
  | 33 => some Tryd.f33
  | 34 => some Tryd.f34
  | 35 => some Tryd.f35
  | 36 => some Tryd.f36
  | 37 => some Tryd.f37
  | 38 => some Tryd.f38
  | 39 => some Tryd.f39
  | 40 => some Tryd.f40
  | 41 => some Tryd.f41
  | 42 => some Tryd.f42
  | 43 => some Tryd.f43
  | 44 => some Tryd.f44
  | 45 => some Tryd.f45
  | 46 => some Tryd.f46
  | 48 => some Tryd.f48
  | 49 => some Tryd.f49
  | 51 => some Tryd.f51
  | 52 => some Tryd.f52
  | 53 => some Tryd.f53
  | 54 => some Tryd.f54
  | 55 => some Tryd.f55
  | 56 => some Tryd.f56
  | 57 => some Tryd.f57
  | 58 => some Tryd.f58
  | 59 => some Tryd.f59
  | 60 => some Tryd.f60
  | 61 => some Tryd.f61
  | 62 => some Tryd.f62
  | 63 => some Tryd.f63
  | 64 => some Tryd.f64
  | 65 => some Tryd.f65
  | 66 => some Tryd.f66
  | 67 => some Tryd.f67
  | 68 => some Tryd.f68
  | 69 => some Tryd.f69
  | 70 => some Tryd.f70
  | 71 => some Tryd.f71
  | 72 => some Tryd.f72
  | 73 => some Tryd.f73
  | 74 => some Tryd.f74
  | 75 => some Tryd.f75
  | 76 => some Tryd.f76
  | _ => none

theorem fns_ok : ∀ f fn, fns f = some fn → Tryd.prog.funcs[f]? = some fn ∧ (fn.name == "runtime.NumGoroutine") = false := by
  intro f fn h
  unfold fns at h
  split at h
  · cases h; exact ⟨Tryd.func3, by kernel_rfl⟩
  · cases h; exact ⟨Tryd.func4, by kernel_rfl⟩
  · cases h; exact ⟨Tryd.func5, by kernel_rfl⟩
  · cases h; exact ⟨Tryd.func6, by kernel_rfl⟩
  · cases h; exact ⟨Tryd.func7, by kernel_rfl⟩
  · cases h; exact ⟨Tryd.func8, by kernel_rfl⟩
  · cases h; exact ⟨Tryd.func9, by kernel_rfl⟩
  · cases h; exact ⟨Tryd.func10, by kernel_rfl⟩
  · cases h; exact ⟨Tryd.func11, by kernel_rfl⟩
  · cases h; exact ⟨Tryd.func12, by kernel_rfl⟩
  · cases h; exact ⟨Tryd.func13, by kernel_rfl⟩
  · cases h; exact ⟨Tryd.func14, by kernel_rfl⟩
  · cases h; exact ⟨Tryd.func15, by kernel_rfl⟩
  · cases h; exact ⟨Tryd.func16, by kernel_rfl⟩
  · cases h; exact ⟨Tryd.func17, by kernel_rfl⟩
  · cases h; exact ⟨Tryd.func18, by kernel_rfl⟩
  · cases h; exact ⟨Tryd.func19, by kernel_rfl⟩
  · cases h; exact ⟨Tryd.func20, by kernel_rfl⟩
  · cases h; exact ⟨Tryd.func21, by kernel_rfl⟩
  · cases h; exact ⟨Tryd.func22, by kernel_rfl⟩
  · cases h; exact ⟨Tryd.func23, by kernel_rfl⟩
  · cases h; exact ⟨Tryd.func24, by kernel_rfl⟩
  · cases h; exact ⟨Tryd.func25, by kernel_rfl⟩
  · cases h; exact ⟨Tryd.func26, by kernel_rfl⟩
  · cases h; exact ⟨Tryd.func27, by kernel_rfl⟩
  · cases h; exact ⟨Tryd.func28, by kernel_rfl⟩
  · cases h; exact ⟨Tryd.func29, by kernel_rfl⟩
  · cases h; exact ⟨Tryd.func30, by kernel_rfl⟩
  · cases h; exact ⟨Tryd.func31, by kernel_rfl⟩
  · cases h; exact ⟨Tryd.func32, by kernel_rfl⟩
  · cases h; exact ⟨Tryd.func33, by kernel_rfl⟩
  · cases h; exact ⟨Tryd.func34, by kernel_rfl⟩
  · cases h; exact ⟨Tryd.func35, by kernel_rfl⟩
  · cases h; exact ⟨Tryd.func36, by kernel_rfl⟩
  · cases h; exact ⟨Tryd.func37, by kernel_rfl⟩
  · cases h; exact ⟨Tryd.func38, by kernel_rfl⟩
  · cases h; exact ⟨Tryd.func39, by kernel_rfl⟩
  · cases h; exact ⟨Tryd.func40, by kernel_rfl⟩
  · cases h; exact ⟨Tryd.func41, by kernel_rfl⟩
  · cases h; exact ⟨Tryd.func42, by kernel_rfl⟩
  · cases h; exact ⟨Tryd.func43, by kernel_rfl⟩
  · cases h; exact ⟨Tryd.func44, by kernel_rfl⟩
  · cases h; exact ⟨Tryd.func45, by kernel_rfl⟩
  · cases h; exact ⟨Tryd.func46, by kernel_rfl⟩
  · cases h; exact ⟨Tryd.func48, by kernel_rfl⟩
  · cases h; exact ⟨Tryd.func49, by kernel_rfl⟩
  · cases h; exact ⟨Tryd.func51, by kernel_rfl⟩
  · cases h; exact ⟨Tryd.func52, by kernel_rfl⟩
  · cases h; exact ⟨Tryd.func53, by kernel_rfl⟩
  · cases h; exact ⟨Tryd.func54, by kernel_rfl⟩
  · cases h; exact ⟨Tryd.func55, by kernel_rfl⟩
  · cases h; exact ⟨Tryd.func56, by kernel_rfl⟩
  · cases h; exact ⟨Tryd.func57, by kernel_rfl⟩
  · cases h; exact ⟨Tryd.func58, by kernel_rfl⟩
  · cases h; exact ⟨Tryd.func59, by kernel_rfl⟩
  · cases h; exact ⟨Tryd.func60, by kernel_rfl⟩
  · cases h; exact ⟨Tryd.func61, by kernel_rfl⟩
  · cases h; exact ⟨Tryd.func62, by kernel_rfl⟩
  · cases h; exact ⟨Tryd.func63, by kernel_rfl⟩
  · cases h; exact ⟨Tryd.func64, by kernel_rfl⟩
  · cases h; exact ⟨Tryd.func65, by kernel_rfl⟩
  · cases h; exact ⟨Tryd.func66, by kernel_rfl⟩
  · cases h; exact ⟨Tryd.func67, by kernel_rfl⟩
  · cases h; exact ⟨Tryd.func68, by kernel_rfl⟩
  · cases h; exact ⟨Tryd.func69, by kernel_rfl⟩
  · cases h; exact ⟨Tryd.func70, by kernel_rfl⟩
  · cases h; exact ⟨Tryd.func71, by kernel_rfl⟩
  · cases h; exact ⟨Tryd.func72, by kernel_rfl⟩
  · cases h; exact ⟨Tryd.func73, by kernel_rfl⟩
  · cases h; exact ⟨Tryd.func74, by kernel_rfl⟩
  · cases h; exact ⟨Tryd.func75, by kernel_rfl⟩
  · cases h; exact ⟨Tryd.func76, by kernel_rfl⟩
  · cases h

theorem mixed : Tryd.prog.follows .mixedOrders = true := by kernel_rfl

def str0 : ByteArray := (ByteArray.mk #[0, 1, 1, 2, 1, 2, 2, 3, 1, 2, 2, 3, 2, 3, 3, 4, 1, 2, 2, 3, 2, 3, 3, 4, 2, 3, 3, 4, 3, 4, 4, 5, 1, 2, 2, 3, 2, 3, 3, 4, 2, 3, 3, 4, 3, 4, 4, 5, 2, 3, 3, 4, 3, 4, 4, 5, 3, 4, 4, 5, 4, 5, 5, 6, 1, 2, 2, 3, 2, 3, 3, 4, 2, 3, 3, 4, 3, 4, 4, 5, 2, 3, 3, 4, 3, 4, 4, 5, 3, 4, 4, 5, 4, 5, 5, 6, 2, 3, 3, 4, 3, 4, 4, 5, 3, 4, 4, 5, 4, 5, 5, 6, 3, 4, 4, 5, 4, 5, 5, 6, 4, 5, 5, 6, 5, 6, 6, 7, 1, 2, 2, 3, 2, 3, 3, 4, 2, 3, 3, 4, 3, 4, 4, 5, 2, 3, 3, 4, 3, 4, 4, 5, 3, 4, 4, 5, 4, 5, 5, 6, 2, 3, 3, 4, 3, 4, 4, 5, 3, 4, 4, 5, 4, 5, 5, 6, 3, 4, 4, 5, 4, 5, 5, 6, 4, 5, 5, 6, 5, 6, 6, 7, 2, 3, 3, 4, 3, 4, 4, 5, 3, 4, 4, 5, 4, 5, 5, 6, 3, 4, 4, 5, 4, 5, 5, 6, 4, 5, 5, 6, 5, 6, 6, 7, 3, 4, 4, 5, 4, 5, 5, 6, 4, 5, 5, 6, 5, 6, 6, 7, 4, 5, 5, 6, 5, 6, 6, 7, 5, 6, 6, 7, 6, 7, 7, 8])
def str1 : ByteArray := (ByteArray.mk #[0, 1, 2, 2, 3, 3, 3, 3, 4, 4, 4, 4, 4, 4, 4, 4, 5, 5, 5, 5, 5, 5, 5, 5, 5, 5, 5, 5, 5, 5, 5, 5, 6, 6, 6, 6, 6, 6, 6, 6, 6, 6, 6, 6, 6, 6, 6, 6, 6, 6, 6, 6, 6, 6, 6, 6, 6, 6, 6, 6, 6, 6, 6, 6, 7, 7, 7, 7, 7, 7, 7, 7, 7, 7, 7, 7, 7, 7, 7, 7, 7, 7, 7, 7, 7, 7, 7, 7, 7, 7, 7, 7, 7, 7, 7, 7, 7, 7, 7, 7, 7, 7, 7, 7, 7, 7, 7, 7, 7, 7, 7, 7, 7, 7, 7, 7, 7, 7, 7, 7, 7, 7, 7, 7, 7, 7, 7, 7, 8, 8, 8, 8, 8, 8, 8, 8, 8, 8, 8, 8, 8, 8, 8, 8, 8, 8, 8, 8, 8, 8, 8, 8, 8, 8, 8, 8, 8, 8, 8, 8, 8, 8, 8, 8, 8, 8, 8, 8, 8, 8, 8, 8, 8, 8, 8, 8, 8, 8, 8, 8, 8, 8, 8, 8, 8, 8, 8, 8, 8, 8, 8, 8, 8, 8, 8, 8, 8, 8, 8, 8, 8, 8, 8, 8, 8, 8, 8, 8, 8, 8, 8, 8, 8, 8, 8, 8, 8, 8, 8, 8, 8, 8, 8, 8, 8, 8, 8, 8, 8, 8, 8, 8, 8, 8, 8, 8, 8, 8, 8, 8, 8, 8, 8, 8, 8, 8, 8, 8, 8, 8, 8, 8, 8, 8, 8, 8])
noncomputable def masks : List Int := [255,255,65535,16777215,4294967295,1099511627775,281474976710655,72057594037927935,18446744073709551615]
noncomputable def glob : Nat → Option AV
  | 0 => some (.arr 9 (.int .u64) masks)
  | _ => none

noncomputable def env (sp : FuncId → Option Spec) (mk : FuncId → Nat → Option (List Nat)) : Env := { P := Tryd.prog, ty := ty, fns := fns, glob := glob, spec := sp, mask := mk }
noncomputable abbrev env0 : Env := env (fun _ => none) (fun _ _ => none)
theorem valid (sp : FuncId → Option Spec) (mk : FuncId → Nat → Option (List Nat)) : (env sp mk).Valid := ⟨ty_ok, fns_ok, mixed⟩
end Go.Eng.RA
end
section
/- The tables of this program where a row lays them. -/
namespace Go.Eng.RA
open Go.Proofs Go.Eng Go.RowKit

theorem masks_all {W : World} (h : Lib.TabIs Tryd.prog W "sundial/bits.masks" .u64 masks) : GlobRep env0 ⟨W, protAll W, []⟩ := by
  have hg : Tryd.prog.globalNamed "sundial/bits.masks" = some 0 := by kernel_rfl
  unfold Lib.TabIs World.var? at h
  rw [hg] at h
  simp only [Option.bind_some] at h
  intro g v e
  have e : glob g = some v := e
  unfold glob at e
  split at e
  · cases e
    split at h
    · rename_i cs t fz hh
      simp only [Option.some.injEq] at h
      subst h
      refine ⟨(masks.map fun z => Value.int .u64 z).toArray, t, fz, masks.map fun z => Value.int .u64 z, hh, fun ι' => ground_ok ι' _ _ (by kernel_rfl), ?_⟩
      intro j v hj
      simpa using hj
    · cases h
  · cases e
end Go.Eng.RA
end
section
/- Contracts given by hand. -/
namespace Go.Eng.RA
open Go.Proofs Go.Eng
noncomputable def tabG : FuncId → Option Spec
  | 47 => some specAdd64
  | 50 => some specSub64
  | _ => none
theorem tabG_ok : ∀ f sp, tabG f = some sp → SpecOk env0 f sp := by
  intro f sp h
  unfold tabG at h
  split at h
  · cases h; exact okAdd64 (fn := Tryd.f47) Tryd.func47 (by kernel_rfl) rfl (by kernel_rfl) (by kernel_rfl)
  · cases h; exact okSub64 (fn := Tryd.f50) Tryd.func50 (by kernel_rfl) rfl (by kernel_rfl) (by kernel_rfl)
  · cases h
end Go.Eng.RA
end
section
/- Functions of this program, written out. -/
namespace Go.Eng.RA
open Go.Proofs Go.Eng
set_option maxRecDepth 100000

/-! ### sundial/bits.wide -/
noncomputable def tree46 (x : Int) : Tr Int :=
  .ret (imin (imax x 1) 8)
noncomputable def fn46 (x : Int) : Int := (tree46 x).val
def pre46 (x : Int) : Prop := (tree46 x).ok
noncomputable def spec46 : Spec := { dom := (.st1 (.int .i64)), cod := (.int .i64), n := 1, pre := pre46, f := fn46 }
theorem run46 (W : Cfg) (Q : Int → Prop) (x : Int) : run (env tabG (fun _ _ => none)) (fun _ _ _ => none) (fun v _ => finQ 1 (.int .i64) Q v) W 100000 (startFr 46 Tryd.f46 (bodyOf Tryd.f46) (argsOf (.st1 (.int .i64)) x)) [] [] = (tree46 x).wp Q := by kernel_rfl
theorem ok46 : SpecOk env0 46 spec46 := SpecOk.env rfl (fun _ _ h => h) (spec_of_tree (E := (env tabG (fun _ _ => none))) (sp := spec46) (valid _ _) (fun f sp h => SpecOk.env rfl (fun _ _ h => h) (tabG_ok f sp h)) (fn := Tryd.f46) (c := (bodyOf Tryd.f46)) (by kernel_rfl) (by kernel_rfl) tree46 run46 (fun _ h => Tr.gives_val h))

noncomputable def tab46 : FuncId → Option Spec
  | 46 => some spec46
  | f => tabG f
theorem tab46_ok : ∀ f sp, tab46 f = some sp → SpecOk env0 f sp := by
  intro f sp h
  unfold tab46 at h
  split at h
  · cases h; exact ok46
  · exact tabG_ok f sp h

/-! ### sundial/bits.Ext -/
noncomputable def tree13 (x : (Int × Int)) : Tr Int :=
  .need (pre46 x.2) <|
  let y0 : Int := (isub .i64 64 (imul .i64 8 (fn46 x.2)))
  .need ((0 : Int) ≤ y0) <|
  .need ((0 : Int) ≤ y0) <|
  .ret (iconv .u64 (ishr .i64 (iconv .i64 (ishl .u64 x.1 y0)) y0))
noncomputable def fn13 (x : (Int × Int)) : Int := (tree13 x).val
def pre13 (x : (Int × Int)) : Prop := (tree13 x).ok
noncomputable def spec13 : Spec := { dom := (.st (.int .u64) (.st1 (.int .i64))), cod := (.int .u64), n := 1, pre := pre13, f := fn13 }
theorem run13 (W : Cfg) (Q : Int → Prop) (x : (Int × Int)) : run (env tab46 (fun _ _ => none)) (fun _ _ _ => none) (fun v _ => finQ 1 (.int .u64) Q v) W 100000 (startFr 13 Tryd.f13 (bodyOf Tryd.f13) (argsOf (.st (.int .u64) (.st1 (.int .i64))) x)) [] [] = (tree13 x).wp Q := by kernel_rfl
theorem ok13 : SpecOk env0 13 spec13 := SpecOk.env rfl (fun _ _ h => h) (spec_of_tree (E := (env tab46 (fun _ _ => none))) (sp := spec13) (valid _ _) (fun f sp h => SpecOk.env rfl (fun _ _ h => h) (tab46_ok f sp h)) (fn := Tryd.f13) (c := (bodyOf Tryd.f13)) (by kernel_rfl) (by kernel_rfl) tree13 run13 (fun _ h => Tr.gives_val h))

noncomputable def tab13 : FuncId → Option Spec
  | 13 => some spec13
  | f => tab46 f
theorem tab13_ok : ∀ f sp, tab13 f = some sp → SpecOk env0 f sp := by
  intro f sp h
  unfold tab13 at h
  split at h
  · cases h; exact ok13
  · exact tab46_ok f sp h

/-! ### sundial/bits.Mask -/
noncomputable def tree45 (x : Int) : Tr Int :=
  .need (pre46 x) <|
  .need ((0 : Int) ≤ (fn46 x)) <|
  .need (((fn46 x) : Int) < 9) <|
  let y0 : Nat := ((fn46 x)).toNat
  .need ((y0 : Nat) < 9) <|
  .ret (rdc (.int .u64) masks y0)
noncomputable def fn45 (x : Int) : Int := (tree45 x).val
def pre45 (x : Int) : Prop := (tree45 x).ok
noncomputable def spec45 : Spec := { dom := (.st1 (.int .i64)), cod := (.int .u64), n := 1, pre := pre45, f := fn45 }
theorem run45 (W : Cfg) (Q : Int → Prop) (x : Int) : run (env tab13 (fun _ _ => none)) (fun _ _ _ => none) (fun v _ => finQ 1 (.int .u64) Q v) W 100000 (startFr 45 Tryd.f45 (bodyOf Tryd.f45) (argsOf (.st1 (.int .i64)) x)) [] [] = (tree45 x).wp Q := by kernel_rfl
theorem ok45 : SpecOk env0 45 spec45 := SpecOk.env rfl (fun _ _ h => h) (spec_of_tree (E := (env tab13 (fun _ _ => none))) (sp := spec45) (valid _ _) (fun f sp h => SpecOk.env rfl (fun _ _ h => h) (tab13_ok f sp h)) (fn := Tryd.f45) (c := (bodyOf Tryd.f45)) (by kernel_rfl) (by kernel_rfl) tree45 run45 (fun _ h => Tr.gives_val h))

noncomputable def tab45 : FuncId → Option Spec
  | 45 => some spec45
  | f => tab13 f
theorem tab45_ok : ∀ f sp, tab45 f = some sp → SpecOk env0 f sp := by
  intro f sp h
  unfold tab45 at h
  split at h
  · cases h; exact ok45
  · exact tab13_ok f sp h

/-! ### sundial/bits.Cut -/
noncomputable def tree14 (x : (Int × Int)) : Tr Int :=
  .need (pre45 x.2) <|
  .ret (iand .u64 x.1 (fn45 x.2))
noncomputable def fn14 (x : (Int × Int)) : Int := (tree14 x).val
def pre14 (x : (Int × Int)) : Prop := (tree14 x).ok
noncomputable def spec14 : Spec := { dom := (.st (.int .u64) (.st1 (.int .i64))), cod := (.int .u64), n := 1, pre := pre14, f := fn14 }
theorem run14 (W : Cfg) (Q : Int → Prop) (x : (Int × Int)) : run (env tab45 (fun _ _ => none)) (fun _ _ _ => none) (fun v _ => finQ 1 (.int .u64) Q v) W 100000 (startFr 14 Tryd.f14 (bodyOf Tryd.f14) (argsOf (.st (.int .u64) (.st1 (.int .i64))) x)) [] [] = (tree14 x).wp Q := by kernel_rfl
theorem ok14 : SpecOk env0 14 spec14 := SpecOk.env rfl (fun _ _ h => h) (spec_of_tree (E := (env tab45 (fun _ _ => none))) (sp := spec14) (valid _ _) (fun f sp h => SpecOk.env rfl (fun _ _ h => h) (tab45_ok f sp h)) (fn := Tryd.f14) (c := (bodyOf Tryd.f14)) (by kernel_rfl) (by kernel_rfl) tree14 run14 (fun _ h => Tr.gives_val h))

noncomputable def tab14 : FuncId → Option Spec
  | 14 => some spec14
  | f => tab45 f
theorem tab14_ok : ∀ f sp, tab14 f = some sp → SpecOk env0 f sp := by
  intro f sp h
  unfold tab14 at h
  split at h
  · cases h; exact ok14
  · exact tab45_ok f sp h

/-! ### sundial/bits.Add$1 -/
noncomputable def tree48 (x : (Int × (Int × Int))) : Tr Bool :=
  .ite ((ieq x.1 1) == false) (
    .ret (ine x.2.1 x.2.2)) (
    .ret true)
noncomputable def fn48 (x : (Int × (Int × Int))) : Bool := (tree48 x).val
def pre48 (x : (Int × (Int × Int))) : Prop := (tree48 x).ok
noncomputable def spec48 : Spec := { dom := (.st (.ref (.int .u64)) (.st (.ref (.int .u64)) (.st1 (.ref (.int .u64))))), cod := .bool, n := 1, pre := pre48, f := fn48 }
theorem run48 (W : Cfg) (Q : Bool → Prop) (x : (Int × (Int × Int))) : run (env tab14 (fun _ _ => none)) (fun _ _ _ => none) (fun v _ => finQ 1 .bool Q v) W 100000 (startFr 48 Tryd.f48 (bodyOf Tryd.f48) (argsOf (.st (.ref (.int .u64)) (.st (.ref (.int .u64)) (.st1 (.ref (.int .u64))))) x)) [] [] = (tree48 x).wp Q := by kernel_rfl
theorem ok48 : SpecOk env0 48 spec48 := SpecOk.env rfl (fun _ _ h => h) (spec_of_tree (E := (env tab14 (fun _ _ => none))) (sp := spec48) (valid _ _) (fun f sp h => SpecOk.env rfl (fun _ _ h => h) (tab14_ok f sp h)) (fn := Tryd.f48) (c := (bodyOf Tryd.f48)) (by kernel_rfl) (by kernel_rfl) tree48 run48 (fun _ h => Tr.gives_val h))

noncomputable def tab48 : FuncId → Option Spec
  | 48 => some spec48
  | f => tab14 f
theorem tab48_ok : ∀ f sp, tab48 f = some sp → SpecOk env0 f sp := by
  intro f sp h
  unfold tab48 at h
  split at h
  · cases h; exact ok48
  · exact tab14_ok f sp h

/-! ### sundial/bits.Sign -/
noncomputable def tree49 (x : (Int × Int)) : Tr Bool :=
  .need (pre46 x.2) <|
  let y0 : Int := (isub .i64 (imul .i64 8 (fn46 x.2)) 1)
  .need ((0 : Int) ≤ y0) <|
  .ret (ieq (iand .u64 (ishr .u64 x.1 y0) 1) 1)
noncomputable def fn49 (x : (Int × Int)) : Bool := (tree49 x).val
def pre49 (x : (Int × Int)) : Prop := (tree49 x).ok
noncomputable def spec49 : Spec := { dom := (.st (.int .u64) (.st1 (.int .i64))), cod := .bool, n := 1, pre := pre49, f := fn49 }
theorem run49 (W : Cfg) (Q : Bool → Prop) (x : (Int × Int)) : run (env tab48 (fun _ _ => none)) (fun _ _ _ => none) (fun v _ => finQ 1 .bool Q v) W 100000 (startFr 49 Tryd.f49 (bodyOf Tryd.f49) (argsOf (.st (.int .u64) (.st1 (.int .i64))) x)) [] [] = (tree49 x).wp Q := by kernel_rfl
theorem ok49 : SpecOk env0 49 spec49 := SpecOk.env rfl (fun _ _ h => h) (spec_of_tree (E := (env tab48 (fun _ _ => none))) (sp := spec49) (valid _ _) (fun f sp h => SpecOk.env rfl (fun _ _ h => h) (tab48_ok f sp h)) (fn := Tryd.f49) (c := (bodyOf Tryd.f49)) (by kernel_rfl) (by kernel_rfl) tree49 run49 (fun _ h => Tr.gives_val h))

noncomputable def tab49 : FuncId → Option Spec
  | 49 => some spec49
  | f => tab48 f
theorem tab49_ok : ∀ f sp, tab49 f = some sp → SpecOk env0 f sp := by
  intro f sp h
  unfold tab49 at h
  split at h
  · cases h; exact ok49
  · exact tab48_ok f sp h

/-! ### sundial/bits.Add -/
noncomputable def tree15 (x : (Int × (Int × (Bool × Int)))) : Tr (Int × (Bool × Bool)) :=
  let y0 : (Bool × Int) := x.2.2
  .ite y0.1 (
    let y1 : Int := y0.2
    let y2 : (Int × Int) := (x.1, y1)
    .need (pre14 y2) <|
    let y3 : (Int × Int) := (x.2.1, y1)
    .need (pre14 y3) <|
    let y4 : Int := (fn14 y2)
    let y5 : Int := (fn14 y3)
    let y6 : (Int × (Int × Int)) := (y4, (y5, 1))
    .need (preAdd64 y6) <|
    let y7 : (Int × Int) := (fnAdd64 y6)
    let y8 : Int := y7.1
    let y9 : (Int × Int) := (y8, y1)
    .need (pre14 y9) <|
    let y10 : Int := (fn14 y9)
    let y11 : (Int × (Int × Int)) := (y7.2, (y8, y10))
    .need (pre48 y11) <|
    let y12 : (Int × Int) := ((iand .u64 (ixor .u64 y4 y10) (ixor .u64 y5 y10)), y1)
    .need (pre49 y12) <|
    .ret (y10, ((fn48 y11), (fn49 y12)))) (
    let y13 : Int := y0.2
    let y14 : (Int × Int) := (x.1, y13)
    .need (pre14 y14) <|
    let y15 : (Int × Int) := (x.2.1, y13)
    .need (pre14 y15) <|
    let y16 : Int := (fn14 y14)
    let y17 : Int := (fn14 y15)
    let y18 : (Int × (Int × Int)) := (y16, (y17, 0))
    .need (preAdd64 y18) <|
    let y19 : (Int × Int) := (fnAdd64 y18)
    let y20 : Int := y19.1
    let y21 : (Int × Int) := (y20, y13)
    .need (pre14 y21) <|
    let y22 : Int := (fn14 y21)
    let y23 : (Int × (Int × Int)) := (y19.2, (y20, y22))
    .need (pre48 y23) <|
    let y24 : (Int × Int) := ((iand .u64 (ixor .u64 y16 y22) (ixor .u64 y17 y22)), y13)
    .need (pre49 y24) <|
    .ret (y22, ((fn48 y23), (fn49 y24))))
noncomputable def fn15 (x : (Int × (Int × (Bool × Int)))) : (Int × (Bool × Bool)) := (tree15 x).val
def pre15 (x : (Int × (Int × (Bool × Int)))) : Prop := (tree15 x).ok
noncomputable def spec15 : Spec := { dom := (.st (.int .u64) (.st (.int .u64) (.st .bool (.st1 (.int .i64))))), cod := (.st (.int .u64) (.st .bool (.st1 .bool))), n := 3, pre := pre15, f := fn15 }
theorem run15 (W : Cfg) (Q : (Int × (Bool × Bool)) → Prop) (x : (Int × (Int × (Bool × Int)))) : run (env tab49 (fun _ _ => none)) (fun _ _ _ => none) (fun v _ => finQ 3 (.st (.int .u64) (.st .bool (.st1 .bool))) Q v) W 100000 (startFr 15 Tryd.f15 (bodyOf Tryd.f15) (argsOf (.st (.int .u64) (.st (.int .u64) (.st .bool (.st1 (.int .i64))))) x)) [] [] = (tree15 x).wp Q := by kernel_rfl
theorem ok15 : SpecOk env0 15 spec15 := SpecOk.env rfl (fun _ _ h => h) (spec_of_tree (E := (env tab49 (fun _ _ => none))) (sp := spec15) (valid _ _) (fun f sp h => SpecOk.env rfl (fun _ _ h => h) (tab49_ok f sp h)) (fn := Tryd.f15) (c := (bodyOf Tryd.f15)) (by kernel_rfl) (by kernel_rfl) tree15 run15 (fun _ h => Tr.gives_val h))

noncomputable def tab15 : FuncId → Option Spec
  | 15 => some spec15
  | f => tab49 f
theorem tab15_ok : ∀ f sp, tab15 f = some sp → SpecOk env0 f sp := by
  intro f sp h
  unfold tab15 at h
  split at h
  · cases h; exact ok15
  · exact tab49_ok f sp h

/-! ### sundial/bits.Sub -/
noncomputable def tree16 (x : (Int × (Int × (Bool × Int)))) : Tr (Int × (Bool × Bool)) :=
  let y0 : (Bool × Int) := x.2.2
  .ite y0.1 (
    let y1 : Int := y0.2
    let y2 : (Int × Int) := (x.1, y1)
    .need (pre14 y2) <|
    let y3 : (Int × Int) := (x.2.1, y1)
    .need (pre14 y3) <|
    let y4 : Int := (fn14 y2)
    let y5 : Int := (fn14 y3)
    let y6 : (Int × (Int × Int)) := (y4, (y5, 1))
    .need (preSub64 y6) <|
    let y7 : (Int × Int) := (fnSub64 y6)
    let y8 : (Int × Int) := (y7.1, y1)
    .need (pre14 y8) <|
    let y9 : Int := (ixor .u64 y4 y5)
    let y10 : Int := (fn14 y8)
    let y11 : (Int × Int) := ((iand .u64 y9 (ixor .u64 y4 y10)), y1)
    .need (pre49 y11) <|
    .ret (y10, ((ieq y7.2 1), (fn49 y11)))) (
    let y12 : Int := y0.2
    let y13 : (Int × Int) := (x.1, y12)
    .need (pre14 y13) <|
    let y14 : (Int × Int) := (x.2.1, y12)
    .need (pre14 y14) <|
    let y15 : Int := (fn14 y13)
    let y16 : Int := (fn14 y14)
    let y17 : (Int × (Int × Int)) := (y15, (y16, 0))
    .need (preSub64 y17) <|
    let y18 : (Int × Int) := (fnSub64 y17)
    let y19 : (Int × Int) := (y18.1, y12)
    .need (pre14 y19) <|
    let y20 : Int := (ixor .u64 y15 y16)
    let y21 : Int := (fn14 y19)
    let y22 : (Int × Int) := ((iand .u64 y20 (ixor .u64 y15 y21)), y12)
    .need (pre49 y22) <|
    .ret (y21, ((ieq y18.2 1), (fn49 y22))))
noncomputable def fn16 (x : (Int × (Int × (Bool × Int)))) : (Int × (Bool × Bool)) := (tree16 x).val
def pre16 (x : (Int × (Int × (Bool × Int)))) : Prop := (tree16 x).ok
noncomputable def spec16 : Spec := { dom := (.st (.int .u64) (.st (.int .u64) (.st .bool (.st1 (.int .i64))))), cod := (.st (.int .u64) (.st .bool (.st1 .bool))), n := 3, pre := pre16, f := fn16 }
theorem run16 (W : Cfg) (Q : (Int × (Bool × Bool)) → Prop) (x : (Int × (Int × (Bool × Int)))) : run (env tab15 (fun _ _ => none)) (fun _ _ _ => none) (fun v _ => finQ 3 (.st (.int .u64) (.st .bool (.st1 .bool))) Q v) W 100000 (startFr 16 Tryd.f16 (bodyOf Tryd.f16) (argsOf (.st (.int .u64) (.st (.int .u64) (.st .bool (.st1 (.int .i64))))) x)) [] [] = (tree16 x).wp Q := by kernel_rfl
theorem ok16 : SpecOk env0 16 spec16 := SpecOk.env rfl (fun _ _ h => h) (spec_of_tree (E := (env tab15 (fun _ _ => none))) (sp := spec16) (valid _ _) (fun f sp h => SpecOk.env rfl (fun _ _ h => h) (tab15_ok f sp h)) (fn := Tryd.f16) (c := (bodyOf Tryd.f16)) (by kernel_rfl) (by kernel_rfl) tree16 run16 (fun _ h => Tr.gives_val h))

noncomputable def tab16 : FuncId → Option Spec
  | 16 => some spec16
  | f => tab15 f
theorem tab16_ok : ∀ f sp, tab16 f = some sp → SpecOk env0 f sp := by
  intro f sp h
  unfold tab16 at h
  split at h
  · cases h; exact ok16
  · exact tab15_ok f sp h

/-! ### math/bits.OnesCount8 -/
noncomputable def tree51 (x : Int) : Tr Int :=
  .need ((0 : Int) ≤ x) <|
  .need ((x).toNat < str0.size) <|
  .ret (iconv .i64 (strAt str0 (x).toNat))
noncomputable def fn51 (x : Int) : Int := (tree51 x).val
def pre51 (x : Int) : Prop := (tree51 x).ok
noncomputable def spec51 : Spec := { dom := (.st1 (.int .u8)), cod := (.int .i64), n := 1, pre := pre51, f := fn51 }
theorem run51 (W : Cfg) (Q : Int → Prop) (x : Int) : run (env tab16 (fun _ _ => none)) (fun _ _ _ => none) (fun v _ => finQ 1 (.int .i64) Q v) W 100000 (startFr 51 Tryd.f51 (bodyOf Tryd.f51) (argsOf (.st1 (.int .u8)) x)) [] [] = (tree51 x).wp Q := by kernel_rfl
theorem ok51 : SpecOk env0 51 spec51 := SpecOk.env rfl (fun _ _ h => h) (spec_of_tree (E := (env tab16 (fun _ _ => none))) (sp := spec51) (valid _ _) (fun f sp h => SpecOk.env rfl (fun _ _ h => h) (tab16_ok f sp h)) (fn := Tryd.f51) (c := (bodyOf Tryd.f51)) (by kernel_rfl) (by kernel_rfl) tree51 run51 (fun _ h => Tr.gives_val h))

noncomputable def tab51 : FuncId → Option Spec
  | 51 => some spec51
  | f => tab16 f
theorem tab51_ok : ∀ f sp, tab51 f = some sp → SpecOk env0 f sp := by
  intro f sp h
  unfold tab51 at h
  split at h
  · cases h; exact ok51
  · exact tab16_ok f sp h

/-! ### sundial/bits.Parity -/
noncomputable def tree17 (x : Int) : Tr Bool :=
  .need (pre51 (iconv .u8 x)) <|
  .need ((2 : Int) ≠ 0) <|
  .ret (ieq (irem .i64 (fn51 (iconv .u8 x)) 2) 0)
noncomputable def fn17 (x : Int) : Bool := (tree17 x).val
def pre17 (x : Int) : Prop := (tree17 x).ok
noncomputable def spec17 : Spec := { dom := (.st1 (.int .u64)), cod := .bool, n := 1, pre := pre17, f := fn17 }
theorem run17 (W : Cfg) (Q : Bool → Prop) (x : Int) : run (env tab51 (fun _ _ => none)) (fun _ _ _ => none) (fun v _ => finQ 1 .bool Q v) W 100000 (startFr 17 Tryd.f17 (bodyOf Tryd.f17) (argsOf (.st1 (.int .u64)) x)) [] [] = (tree17 x).wp Q := by kernel_rfl
theorem ok17 : SpecOk env0 17 spec17 := SpecOk.env rfl (fun _ _ h => h) (spec_of_tree (E := (env tab51 (fun _ _ => none))) (sp := spec17) (valid _ _) (fun f sp h => SpecOk.env rfl (fun _ _ h => h) (tab51_ok f sp h)) (fn := Tryd.f17) (c := (bodyOf Tryd.f17)) (by kernel_rfl) (by kernel_rfl) tree17 run17 (fun _ h => Tr.gives_val h))

noncomputable def tab17 : FuncId → Option Spec
  | 17 => some spec17
  | f => tab51 f
theorem tab17_ok : ∀ f sp, tab17 f = some sp → SpecOk env0 f sp := by
  intro f sp h
  unfold tab17 at h
  split at h
  · cases h; exact ok17
  · exact tab51_ok f sp h

/-! ### sundial/bits.Bytes -/
inductive J18 where
  | h0 (v0 : Int) (v1 : Int)
  | h1 (v0 : Int) (v1 : Int) (v7 : Nat) (v10 : Nat) (v11 : (List Int))
noncomputable def tree18 (x : (Int × Int)) : Tr (J18 ⊕ (List Int)) :=
  .need (pre46 x.2) <|
  .ret (.inl (.h0 (fn46 x.2) 0))
noncomputable def step18 (x : (Int × Int)) : J18 → Tr (J18 ⊕ (List Int))
  | .h0 v0 v1 =>
    .ite (ilt v1 v0) (
      let y0 : Int := (imul .i64 8 v1)
      .need ((0 : Int) ≤ y0) <|
      .need ((0 : Nat) < 1) <|
      .need (((0 : Nat) + 1 : Nat) ≤ 1) <|
      let y1 : (List Int) := ((((List.replicate 1 (0 : Int)).set 0 (iconv .u8 (ishr .u64 x.1 y0))).drop 0).take 1)
      let y2 : Nat := y1.length
      .ite (ieq (y2 : Int) 0) (
        let y3 : Int := (iadd .i64 v1 1)
        .ret (.inl (.h0 v0 y3))) (
        .need (((y2 : Nat) * 1 : Nat) ≤ 2 ^ 40) <|
        .need ((y2 : Nat) ≤ 2 ^ 40) <|
        let y4 : Int := (iadd .i64 v1 1)
        .ret (.inl (.h1 v0 y4 y2 y2 y1)))) (
      .ret (.inr ([] : List Int)))
  | .h1 v0 v1 v7 v10 v11 =>
    .ite (ilt v1 v0) (
      let y0 : Int := (imul .i64 8 v1)
      .need ((0 : Int) ≤ y0) <|
      .need ((0 : Nat) < 1) <|
      .need (((0 : Nat) + 1 : Nat) ≤ 1) <|
      .need ((v7 : Nat) = v10) <|
      let y1 : (List Int) := ((((List.replicate 1 (0 : Int)).set 0 (iconv .u8 (ishr .u64 x.1 y0))).drop 0).take 1)
      let y2 : Nat := (v7 + y1.length)
      .need (((y2 : Nat) * 1 : Nat) ≤ 2 ^ 40) <|
      .need ((y2 : Nat) ≤ 2 ^ 40) <|
      .ret (.inl (.h1 v0 (iadd .i64 v1 1) y2 y2 (v11 ++ y1)))) (
      .need (((0 : Nat) + v7 : Nat) ≤ v10) <|
      .ret (.inr ((v11.drop 0).take v7)))
noncomputable def head18 (x : (Int × Int)) : J18 → Head
  | .h0 v0 v1 =>
    { fr := { id := 65, kind := (.iter 4), T := [(.yld 4), .any, (.ptr 1 []), .any, .any, .any, (.int .i64 v0), (.int .i64 v1)] ++ List.replicate 12 .any, items := [.lp (subc [1, 0, 0] (bodyOf Tryd.f65)), .blk 0], D := [], base := 5 },
      stk := [{ id := 18, kind := .top, T := [(.int .u64 x.1), (.int .i64 x.2), .undef, .undef, (.ptr 0 []), .undef, .undef, (.int .u64 x.1), (.int .i64 x.2), (.fn 65 [(.ptr 2 []), (.ptr 1 [])])] ++ List.replicate 7 .undef, items := [.fin 4, .blk 0, .code (subc [1, 1] (bodyOf Tryd.f18))], D := [3], base := 0 }],
      H := [.cell true 31 (.raw (.slice none 0 0)), .cell true 22 (.int .u64 x.1), .cell true 3 (.int .i64 x.2), .dfd, .loop .ready none 18 (List.replicate 4 .any ++ [(.ptr 0 [])] ++ List.replicate 12 .any) [10, 11] (subc [1, 0, 1, 0, 0] (bodyOf Tryd.f18)) (subc [1, 0, 1, 0, 1] (bodyOf Tryd.f18)) 3] }
  | .h1 v0 v1 v7 v10 v11 =>
    { fr := { id := 65, kind := (.iter 4), T := [(.yld 4), .any, (.ptr 1 []), .any, .any, .any, (.int .i64 v0), (.int .i64 v1)] ++ List.replicate 12 .any, items := [.lp (subc [1, 0, 0] (bodyOf Tryd.f65)), .blk 0], D := [], base := 5 },
      stk := [{ id := 18, kind := .top, T := [(.int .u64 x.1), (.int .i64 x.2), .undef, .undef, (.ptr 0 []), .undef, .undef, (.int .u64 x.1), (.int .i64 x.2), (.fn 65 [(.ptr 2 []), (.ptr 1 [])])] ++ List.replicate 7 .undef, items := [.fin 4, .blk 0, .code (subc [1, 1] (bodyOf Tryd.f18))], D := [3], base := 0 }],
      H := [.cell true 31 (.osl 5 [] 1 0 v7 none), .cell true 22 (.int .u64 x.1), .cell true 3 (.int .i64 x.2), .dfd, .loop .ready none 18 (List.replicate 4 .any ++ [(.ptr 0 [])] ++ List.replicate 12 .any) [10, 11] (subc [1, 0, 1, 0, 0] (bodyOf Tryd.f18)) (subc [1, 0, 1, 0, 1] (bodyOf Tryd.f18)) 3, .cell true 5 (.arr v10 (.int .u8) v11)] }
noncomputable def stop18 : FuncId → Nat → Nat → Option Cut
  | 65, 0, 5 => some { tmps := [0, 2, 6, 7], loops := [(4, [4])], dead := [] }
  | _, _, _ => none
noncomputable def fn18 (x : (Int × Int)) : (List Int) := endVal (TC.dflt (.slice (.int .u8))) (step18 x) (tree18 x)
def pre18 (x : (Int × Int)) : Prop := ∃ r, Ends (step18 x) r (tree18 x)
noncomputable def spec18 : Spec := { dom := (.st (.int .u64) (.st1 (.int .i64))), cod := (.slice (.int .u8)), n := 1, pre := pre18, f := fn18 }
theorem run18 (W : Cfg) (Q : (List Int) → Prop) (x : (Int × Int)) : run (env tab17 (fun _ _ => none)) stop18 (fun v _ => finQ 1 (.slice (.int .u8)) Q v) W 100000 (startFr 18 Tryd.f18 (bodyOf Tryd.f18) (argsOf (.st (.int .u64) (.st1 (.int .i64))) x)) [] [] = (tree18 x).wp (kont W Q (head18 x)) := by kernel_rfl
theorem run18h0 (W : Cfg) (Q : (List Int) → Prop) (x : (Int × Int)) (v0 : Int) (v1 : Int) : run (env tab17 (fun _ _ => none)) stop18 (fun v _ => finQ 1 (.slice (.int .u8)) Q v) W 100000 (head18 x (.h0 v0 v1)).fr.enter (head18 x (.h0 v0 v1)).stk (head18 x (.h0 v0 v1)).H = (step18 x (.h0 v0 v1)).wp (kont W Q (head18 x)) := by kernel_rfl
theorem run18h1 (W : Cfg) (Q : (List Int) → Prop) (x : (Int × Int)) (v0 : Int) (v1 : Int) (v7 : Nat) (v10 : Nat) (v11 : (List Int)) : run (env tab17 (fun _ _ => none)) stop18 (fun v _ => finQ 1 (.slice (.int .u8)) Q v) W 100000 (head18 x (.h1 v0 v1 v7 v10 v11)).fr.enter (head18 x (.h1 v0 v1 v7 v10 v11)).stk (head18 x (.h1 v0 v1 v7 v10 v11)).H = (step18 x (.h1 v0 v1 v7 v10 v11)).wp (kont W Q (head18 x)) := by kernel_rfl
theorem runs18 (W : Cfg) (Q : (List Int) → Prop) (x : (Int × Int)) : ∀ j : J18, run (env tab17 (fun _ _ => none)) stop18 (fun v _ => finQ 1 (.slice (.int .u8)) Q v) W 100000 (head18 x j).fr.enter (head18 x j).stk (head18 x j).H = (step18 x j).wp (kont W Q (head18 x))
  | .h0 v0 v1 => run18h0 W Q x v0 v1
  | .h1 v0 v1 v7 v10 v11 => run18h1 W Q x v0 v1 v7 v10 v11
theorem ok18 : SpecOk env0 18 spec18 := SpecOk.env rfl (fun _ _ h => h) (spec_of_trees (E := (env tab17 (fun _ _ => none))) (sp := spec18) (valid _ _) (fun f sp h => SpecOk.env rfl (fun _ _ h => h) (tab17_ok f sp h)) (fn := Tryd.f18) (c := (bodyOf Tryd.f18)) (by kernel_rfl) (by kernel_rfl) tree18 step18 head18 run18 runs18 (fun _ h => endVal_ends h))

noncomputable def tab18 : FuncId → Option Spec
  | 18 => some spec18
  | f => tab17 f
theorem tab18_ok : ∀ f sp, tab18 f = some sp → SpecOk env0 f sp := by
  intro f sp h
  unfold tab18 at h
  split at h
  · cases h; exact ok18
  · exact tab17_ok f sp h

/-! ### sundial/bits.Number -/
inductive J19 where
  | h0 (v0 : Int) (v1 : (List Int)) (v2 : Int) (v3 : Int)
noncomputable def tree19 (x : (List Int)) : Tr (J19 ⊕ Int) :=
  let y0 : Int := (imin (x.length : Int) 8)
  .need ((0 : Int) ≤ y0) <|
  let y1 : Nat := (y0).toNat
  .need ((0 : Nat) ≤ y1) <|
  .need ((y1 : Nat) ≤ x.length) <|
  let y2 : (List Int) := ((x.drop 0).take (y1 - 0))
  .ret (.inl (.h0 0 y2 (y2.length : Int) 0))
noncomputable def step19 (_x : (List Int)) : J19 → Tr (J19 ⊕ Int)
  | .h0 v0 v1 v2 v3 =>
    .ite (ilt v3 v2) (
      .need ((0 : Int) ≤ v3) <|
      .need (v3 < (v1.length : Int)) <|
      let y0 : Int := (imul .i64 8 v3)
      .need ((0 : Int) ≤ y0) <|
      .ret (.inl (.h0 (ior .u64 v0 (ishl .u64 (iconv .u64 (rdc (.int .u8) v1 (v3).toNat)) y0)) v1 v2 (iadd .i64 v3 1)))) (
      .ret (.inr v0))
noncomputable def head19 (_x : (List Int)) : J19 → Head
  | .h0 v0 v1 v2 v3 =>
    { fr := { id := 19, kind := .top, T := [.any, .any, (.int .u64 v0)] ++ List.replicate 6 .any ++ [(.fsl (.int .u8) v1), (.int .i64 v2), (.int .i64 v3)] ++ List.replicate 13 .any, items := [.lp (subc [1, 0, 1, 0, 0] (bodyOf Tryd.f19)), .blk 0, .code (subc [1, 1] (bodyOf Tryd.f19))], D := [], base := 0 },
      stk := [],
      H := [] }
noncomputable def stop19 : FuncId → Nat → Nat → Option Cut
  | 19, 0, 0 => some { tmps := [2, 9, 10, 11], loops := [], dead := [] }
  | _, _, _ => none
noncomputable def fn19 (x : (List Int)) : Int := endVal (TC.dflt (.int .u64)) (step19 x) (tree19 x)
def pre19 (x : (List Int)) : Prop := ∃ r, Ends (step19 x) r (tree19 x)
noncomputable def spec19 : Spec := { dom := (.st1 (.slice (.int .u8))), cod := (.int .u64), n := 1, pre := pre19, f := fn19 }
theorem run19 (W : Cfg) (Q : Int → Prop) (x : (List Int)) : run (env tab18 (fun _ _ => none)) stop19 (fun v _ => finQ 1 (.int .u64) Q v) W 100000 (startFr 19 Tryd.f19 (bodyOf Tryd.f19) (argsOf (.st1 (.slice (.int .u8))) x)) [] [] = (tree19 x).wp (kont W Q (head19 x)) := by kernel_rfl
theorem run19h0 (W : Cfg) (Q : Int → Prop) (x : (List Int)) (v0 : Int) (v1 : (List Int)) (v2 : Int) (v3 : Int) : run (env tab18 (fun _ _ => none)) stop19 (fun v _ => finQ 1 (.int .u64) Q v) W 100000 (head19 x (.h0 v0 v1 v2 v3)).fr.enter (head19 x (.h0 v0 v1 v2 v3)).stk (head19 x (.h0 v0 v1 v2 v3)).H = (step19 x (.h0 v0 v1 v2 v3)).wp (kont W Q (head19 x)) := by kernel_rfl
theorem runs19 (W : Cfg) (Q : Int → Prop) (x : (List Int)) : ∀ j : J19, run (env tab18 (fun _ _ => none)) stop19 (fun v _ => finQ 1 (.int .u64) Q v) W 100000 (head19 x j).fr.enter (head19 x j).stk (head19 x j).H = (step19 x j).wp (kont W Q (head19 x))
  | .h0 v0 v1 v2 v3 => run19h0 W Q x v0 v1 v2 v3
theorem ok19 : SpecOk env0 19 spec19 := SpecOk.env rfl (fun _ _ h => h) (spec_of_trees (E := (env tab18 (fun _ _ => none))) (sp := spec19) (valid _ _) (fun f sp h => SpecOk.env rfl (fun _ _ h => h) (tab18_ok f sp h)) (fn := Tryd.f19) (c := (bodyOf Tryd.f19)) (by kernel_rfl) (by kernel_rfl) tree19 step19 head19 run19 runs19 (fun _ h => endVal_ends h))

noncomputable def tab19 : FuncId → Option Spec
  | 19 => some spec19
  | f => tab18 f
theorem tab19_ok : ∀ f sp, tab19 f = some sp → SpecOk env0 f sp := by
  intro f sp h
  unfold tab19 at h
  split at h
  · cases h; exact ok19
  · exact tab18_ok f sp h

/-! ### sundial/sundiallaw01.wakes -/
noncomputable def tree12 (_x : Unit) : Tr Bool :=
  let y0 : (Int × (Bool × Int)) := (1, (false, 1))
  let y1 : (Int × (Int × (Bool × Int))) := (127, y0)
  .need (pre15 y1) <|
  let y2 : (Int × (Int × (Bool × Int))) := (128, y0)
  .need (pre16 y2) <|
  let y3 : (Int × Int) := (128, 1)
  .need (pre13 y3) <|
  .ite ((ieq (fn13 y3) 18446744073709551488) == true) (
    let y4 : (Int × (Bool × Bool)) := (fn15 y1)
    .ite ((ieq y4.1 128) == true) (
      let y5 : (Bool × Bool) := y4.2
      .ite ((!y5.1) == true) (
        .ite (y5.2 == true) (
          let y6 : (Int × (Bool × Bool)) := (fn16 y2)
          .ite ((ieq y6.1 127) == true) (
            let y7 : (Bool × Bool) := y6.2
            .ite ((!y7.1) == true) (
              .ite (y7.2 == true) (
                .need (pre45 4) <|
                .ite ((ieq (fn45 4) 4294967295) == true) (
                  .need (pre17 0) <|
                  .ite ((fn17 0) == true) (
                    .need (pre17 1) <|
                    .ite ((!(fn17 1)) == true) (
                      let y8 : (Int × Int) := (4660, 2)
                      .need (pre18 y8) <|
                      let y9 : (List Int) := (fn18 y8)
                      .need (pre19 y9) <|
                      .ret (ieq (fn19 y9) 4660)) (
                      .ret false)) (
                    .ret false)) (
                  .ret false)) (
                .ret false)) (
              .ret false)) (
            .ret false)) (
          .ret false)) (
        .ret false)) (
      .ret false)) (
    .ret false)
noncomputable def fn12 (x : Unit) : Bool := (tree12 x).val
def pre12 (x : Unit) : Prop := (tree12 x).ok
noncomputable def spec12 : Spec := { dom := .unit, cod := .bool, n := 1, pre := pre12, f := fn12 }
theorem run12 (W : Cfg) (Q : Bool → Prop) (x : Unit) : run (env tab19 (fun _ _ => none)) (fun _ _ _ => none) (fun v _ => finQ 1 .bool Q v) W 100000 (startFr 12 Tryd.f12 (bodyOf Tryd.f12) (argsOf .unit x)) [] [] = (tree12 x).wp Q := by kernel_rfl
theorem ok12 : SpecOk env0 12 spec12 := SpecOk.env rfl (fun _ _ h => h) (spec_of_tree (E := (env tab19 (fun _ _ => none))) (sp := spec12) (valid _ _) (fun f sp h => SpecOk.env rfl (fun _ _ h => h) (tab19_ok f sp h)) (fn := Tryd.f12) (c := (bodyOf Tryd.f12)) (by kernel_rfl) (by kernel_rfl) tree12 run12 (fun _ h => Tr.gives_val h))

noncomputable def tab12 : FuncId → Option Spec
  | 12 => some spec12
  | f => tab19 f
theorem tab12_ok : ∀ f sp, tab12 f = some sp → SpecOk env0 f sp := by
  intro f sp h
  unfold tab12 at h
  split at h
  · cases h; exact ok12
  · exact tab19_ok f sp h

/-! ### sundial/sundiallaw01.BitsSigned -/
noncomputable def tree3 (x : (Int × (Int × (Int × Bool)))) : Tr Bool :=
  let y0 : (Int × Bool) := x.2.2
  let y1 : Int := y0.1
  .ite ((ilt y1 1) == false) (
    .ite (ilt 4 y1) (
      .need (pre12 ()) <|
      .ret (fn12 ())) (
      let y2 : Bool := y0.2
      .ite y2 (
        let y3 : (Int × Int) := (x.1, y1)
        .need (pre13 y3) <|
        let y4 : Int := x.2.1
        let y5 : (Int × Int) := (y4, y1)
        .need (pre13 y5) <|
        .need (pre14 y3) <|
        .need (pre14 y5) <|
        let y6 : Int := (isub .i64 (imul .i64 8 y1) 1)
        .need ((0 : Int) ≤ y6) <|
        let y7 : (Int × (Int × (Bool × Int))) := (x.1, (y4, (y2, y1)))
        .need (pre15 y7) <|
        .need (pre16 y7) <|
        let y8 : Int := (ishl .i64 1 y6)
        let y9 : Int := (iconv .i64 (fn13 y3))
        let y10 : Int := (iconv .i64 (fn13 y5))
        let y11 : Int := (iadd .i64 y9 y10)
        let y12 : Int := (iadd .i64 y11 1)
        .ite ((ile y8 y12) == false) (
          let y13 : (Bool × Bool) := (fn15 y7).2
          let y14 : Bool := y13.2
          let y15 : Int := (ineg .i64 y8)
          .ite ((y14 == (ilt y12 y15)) == true) (
            let y16 : Bool := y13.1
            let y17 : Int := (imul .i64 2 y8)
            let y18 : Int := (iconv .i64 (fn14 y3))
            let y19 : Int := (iconv .i64 (fn14 y5))
            let y20 : Int := (iadd .i64 y18 y19)
            let y21 : Bool := ((y16 == (ile y17 (iadd .i64 y20 1))) == true)
            .ite y21 (
              let y22 : Int := (isub .i64 y9 y10)
              let y23 : Int := (isub .i64 y22 1)
              let y24 : Bool := ((ile y8 y23) == false)
              .ite y24 (
                let y25 : (Bool × Bool) := (fn16 y7).2
                let y26 : Bool := y25.2
                let y27 : Bool := ((y26 == (ilt y23 y15)) == true)
                .ite y27 (
                  let y28 : Bool := y25.1
                  let y29 : Int := (isub .i64 y18 y19)
                  let y30 : Bool := ((y28 == (ilt (isub .i64 y29 1) 0)) == true)
                  .ite y30 (
                    .need (pre12 ()) <|
                    .ret (fn12 ())) (
                    .ret false)) (
                  .ret false)) (
                let y31 : (Bool × Bool) := (fn16 y7).2
                let y32 : Bool := y31.2
                let y33 : Bool := ((y32 == true) == true)
                .ite y33 (
                  let y34 : Bool := y31.1
                  let y35 : Int := (isub .i64 y18 y19)
                  let y36 : Bool := ((y34 == (ilt (isub .i64 y35 1) 0)) == true)
                  .ite y36 (
                    .need (pre12 ()) <|
                    .ret (fn12 ())) (
                    .ret false)) (
                  .ret false))) (
              .ret false)) (
            .ret false)) (
          let y37 : (Bool × Bool) := (fn15 y7).2
          let y38 : Bool := y37.2
          let y39 : Bool := ((y38 == true) == true)
          .ite y39 (
            let y40 : Bool := y37.1
            let y41 : Int := (imul .i64 2 y8)
            let y42 : Int := (iconv .i64 (fn14 y3))
            let y43 : Int := (iconv .i64 (fn14 y5))
            let y44 : Int := (iadd .i64 y42 y43)
            let y45 : Bool := ((y40 == (ile y41 (iadd .i64 y44 1))) == true)
            .ite y45 (
              let y46 : Int := (isub .i64 y9 y10)
              let y47 : Int := (isub .i64 y46 1)
              let y48 : Bool := ((ile y8 y47) == false)
              .ite y48 (
                let y49 : (Bool × Bool) := (fn16 y7).2
                let y50 : Bool := y49.2
                let y51 : Int := (ineg .i64 y8)
                let y52 : Bool := ((y50 == (ilt y47 y51)) == true)
                .ite y52 (
                  let y53 : Bool := y49.1
                  let y54 : Int := (isub .i64 y42 y43)
                  let y55 : Bool := ((y53 == (ilt (isub .i64 y54 1) 0)) == true)
                  .ite y55 (
                    .need (pre12 ()) <|
                    .ret (fn12 ())) (
                    .ret false)) (
                  .ret false)) (
                let y56 : (Bool × Bool) := (fn16 y7).2
                let y57 : Bool := y56.2
                let y58 : Bool := ((y57 == true) == true)
                .ite y58 (
                  let y59 : Bool := y56.1
                  let y60 : Int := (isub .i64 y42 y43)
                  let y61 : Bool := ((y59 == (ilt (isub .i64 y60 1) 0)) == true)
                  .ite y61 (
                    .need (pre12 ()) <|
                    .ret (fn12 ())) (
                    .ret false)) (
                  .ret false))) (
              .ret false)) (
            .ret false))) (
        let y62 : (Int × Int) := (x.1, y1)
        .need (pre13 y62) <|
        let y63 : Int := x.2.1
        let y64 : (Int × Int) := (y63, y1)
        .need (pre13 y64) <|
        .need (pre14 y62) <|
        .need (pre14 y64) <|
        let y65 : Int := (isub .i64 (imul .i64 8 y1) 1)
        .need ((0 : Int) ≤ y65) <|
        let y66 : (Int × (Int × (Bool × Int))) := (x.1, (y63, (y2, y1)))
        .need (pre15 y66) <|
        .need (pre16 y66) <|
        let y67 : Int := (ishl .i64 1 y65)
        let y68 : Int := (iconv .i64 (fn13 y62))
        let y69 : Int := (iconv .i64 (fn13 y64))
        let y70 : Int := (iadd .i64 y68 y69)
        let y71 : Int := (iadd .i64 y70 0)
        .ite ((ile y67 y71) == false) (
          let y72 : (Bool × Bool) := (fn15 y66).2
          let y73 : Bool := y72.2
          let y74 : Int := (ineg .i64 y67)
          .ite ((y73 == (ilt y71 y74)) == true) (
            let y75 : Bool := y72.1
            let y76 : Int := (imul .i64 2 y67)
            let y77 : Int := (iconv .i64 (fn14 y62))
            let y78 : Int := (iconv .i64 (fn14 y64))
            let y79 : Int := (iadd .i64 y77 y78)
            let y80 : Bool := ((y75 == (ile y76 (iadd .i64 y79 0))) == true)
            .ite y80 (
              let y81 : Int := (isub .i64 y68 y69)
              let y82 : Int := (isub .i64 y81 0)
              let y83 : Bool := ((ile y67 y82) == false)
              .ite y83 (
                let y84 : (Bool × Bool) := (fn16 y66).2
                let y85 : Bool := y84.2
                let y86 : Bool := ((y85 == (ilt y82 y74)) == true)
                .ite y86 (
                  let y87 : Bool := y84.1
                  let y88 : Int := (isub .i64 y77 y78)
                  let y89 : Bool := ((y87 == (ilt (isub .i64 y88 0) 0)) == true)
                  .ite y89 (
                    .need (pre12 ()) <|
                    .ret (fn12 ())) (
                    .ret false)) (
                  .ret false)) (
                let y90 : (Bool × Bool) := (fn16 y66).2
                let y91 : Bool := y90.2
                let y92 : Bool := ((y91 == true) == true)
                .ite y92 (
                  let y93 : Bool := y90.1
                  let y94 : Int := (isub .i64 y77 y78)
                  let y95 : Bool := ((y93 == (ilt (isub .i64 y94 0) 0)) == true)
                  .ite y95 (
                    .need (pre12 ()) <|
                    .ret (fn12 ())) (
                    .ret false)) (
                  .ret false))) (
              .ret false)) (
            .ret false)) (
          let y96 : (Bool × Bool) := (fn15 y66).2
          let y97 : Bool := y96.2
          let y98 : Bool := ((y97 == true) == true)
          .ite y98 (
            let y99 : Bool := y96.1
            let y100 : Int := (imul .i64 2 y67)
            let y101 : Int := (iconv .i64 (fn14 y62))
            let y102 : Int := (iconv .i64 (fn14 y64))
            let y103 : Int := (iadd .i64 y101 y102)
            let y104 : Bool := ((y99 == (ile y100 (iadd .i64 y103 0))) == true)
            .ite y104 (
              let y105 : Int := (isub .i64 y68 y69)
              let y106 : Int := (isub .i64 y105 0)
              let y107 : Bool := ((ile y67 y106) == false)
              .ite y107 (
                let y108 : (Bool × Bool) := (fn16 y66).2
                let y109 : Bool := y108.2
                let y110 : Int := (ineg .i64 y67)
                let y111 : Bool := ((y109 == (ilt y106 y110)) == true)
                .ite y111 (
                  let y112 : Bool := y108.1
                  let y113 : Int := (isub .i64 y101 y102)
                  let y114 : Bool := ((y112 == (ilt (isub .i64 y113 0) 0)) == true)
                  .ite y114 (
                    .need (pre12 ()) <|
                    .ret (fn12 ())) (
                    .ret false)) (
                  .ret false)) (
                let y115 : (Bool × Bool) := (fn16 y66).2
                let y116 : Bool := y115.2
                let y117 : Bool := ((y116 == true) == true)
                .ite y117 (
                  let y118 : Bool := y115.1
                  let y119 : Int := (isub .i64 y101 y102)
                  let y120 : Bool := ((y118 == (ilt (isub .i64 y119 0) 0)) == true)
                  .ite y120 (
                    .need (pre12 ()) <|
                    .ret (fn12 ())) (
                    .ret false)) (
                  .ret false))) (
              .ret false)) (
            .ret false))))) (
    .need (pre12 ()) <|
    .ret (fn12 ()))
noncomputable def fn3 (x : (Int × (Int × (Int × Bool)))) : Bool := (tree3 x).val
def pre3 (x : (Int × (Int × (Int × Bool)))) : Prop := (tree3 x).ok
noncomputable def spec3 : Spec := { dom := (.st (.int .u64) (.st (.int .u64) (.st (.int .i64) (.st1 .bool)))), cod := .bool, n := 1, pre := pre3, f := fn3 }
theorem run3 (W : Cfg) (Q : Bool → Prop) (x : (Int × (Int × (Int × Bool)))) : run (env tab12 (fun _ _ => none)) (fun _ _ _ => none) (fun v _ => finQ 1 .bool Q v) W 100000 (startFr 3 Tryd.f3 (bodyOf Tryd.f3) (argsOf (.st (.int .u64) (.st (.int .u64) (.st (.int .i64) (.st1 .bool)))) x)) [] [] = (tree3 x).wp Q := by kernel_rfl
theorem ok3 : SpecOk env0 3 spec3 := SpecOk.env rfl (fun _ _ h => h) (spec_of_tree (E := (env tab12 (fun _ _ => none))) (sp := spec3) (valid _ _) (fun f sp h => SpecOk.env rfl (fun _ _ h => h) (tab12_ok f sp h)) (fn := Tryd.f3) (c := (bodyOf Tryd.f3)) (by kernel_rfl) (by kernel_rfl) tree3 run3 (fun _ h => Tr.gives_val h))

noncomputable def tab3 : FuncId → Option Spec
  | 3 => some spec3
  | f => tab12 f
theorem tab3_ok : ∀ f sp, tab3 f = some sp → SpecOk env0 f sp := by
  intro f sp h
  unfold tab3 at h
  split at h
  · cases h; exact ok3
  · exact tab12_ok f sp h

/-! ### sundial/sundiallaw01.BitsParity -/
noncomputable def tree4 (x : (Int × Int)) : Tr Bool :=
  .need ((64 : Int) ≠ 0) <|
  .need ((64 : Int) ≠ 0) <|
  let y0 : Int := (irem .i64 (iadd .i64 (irem .i64 x.2 64) 64) 64)
  let y1 : Int := (iconv .u64 y0)
  .need ((0 : Int) ≤ y1) <|
  let y2 : Int := (ixor .u64 x.1 (ishl .u64 1 y1))
  .need (pre17 y2) <|
  .need (pre17 x.1) <|
  let y3 : Bool := (fn17 x.1)
  .ite (((!((fn17 y2) == y3)) == (ilt y0 8)) == true) (
    let y4 : (Int × Int) := (x.1, 1)
    .need (pre14 y4) <|
    let y5 : Int := (fn14 y4)
    .need (pre17 y5) <|
    .need (pre17 x.1) <|
    .ite (((fn17 y5) == y3) == true) (
      .need (pre12 ()) <|
      .ret (fn12 ())) (
      .ret false)) (
    .ret false)
noncomputable def fn4 (x : (Int × Int)) : Bool := (tree4 x).val
def pre4 (x : (Int × Int)) : Prop := (tree4 x).ok
noncomputable def spec4 : Spec := { dom := (.st (.int .u64) (.st1 (.int .i64))), cod := .bool, n := 1, pre := pre4, f := fn4 }
theorem run4 (W : Cfg) (Q : Bool → Prop) (x : (Int × Int)) : run (env tab3 (fun _ _ => none)) (fun _ _ _ => none) (fun v _ => finQ 1 .bool Q v) W 100000 (startFr 4 Tryd.f4 (bodyOf Tryd.f4) (argsOf (.st (.int .u64) (.st1 (.int .i64))) x)) [] [] = (tree4 x).wp Q := by kernel_rfl
theorem ok4 : SpecOk env0 4 spec4 := SpecOk.env rfl (fun _ _ h => h) (spec_of_tree (E := (env tab3 (fun _ _ => none))) (sp := spec4) (valid _ _) (fun f sp h => SpecOk.env rfl (fun _ _ h => h) (tab3_ok f sp h)) (fn := Tryd.f4) (c := (bodyOf Tryd.f4)) (by kernel_rfl) (by kernel_rfl) tree4 run4 (fun _ h => Tr.gives_val h))

noncomputable def tab4 : FuncId → Option Spec
  | 4 => some spec4
  | f => tab3 f
theorem tab4_ok : ∀ f sp, tab4 f = some sp → SpecOk env0 f sp := by
  intro f sp h
  unfold tab4 at h
  split at h
  · cases h; exact ok4
  · exact tab3_ok f sp h

/-! ### sundial/bits.Turn -/
noncomputable def tree20 (x : (Int × (Int × Int))) : Tr Int :=
  let y0 : Int := x.2.2
  .need (pre46 y0) <|
  let y1 : Int := (imul .i64 8 (fn46 y0))
  .need ((y1 : Int) ≠ 0) <|
  .need ((y1 : Int) ≠ 0) <|
  let y2 : (Int × Int) := (x.1, y0)
  .need (pre14 y2) <|
  let y3 : Int := (irem .i64 (iadd .i64 (irem .i64 x.2.1 y1) y1) y1)
  .need ((0 : Int) ≤ y3) <|
  let y4 : Int := (isub .i64 y1 y3)
  .need ((0 : Int) ≤ y4) <|
  let y5 : Int := (fn14 y2)
  let y6 : (Int × Int) := ((ior .u64 (ishl .u64 y5 y3) (ishr .u64 y5 y4)), y0)
  .need (pre14 y6) <|
  .ret (fn14 y6)
noncomputable def fn20 (x : (Int × (Int × Int))) : Int := (tree20 x).val
def pre20 (x : (Int × (Int × Int))) : Prop := (tree20 x).ok
noncomputable def spec20 : Spec := { dom := (.st (.int .u64) (.st (.int .i64) (.st1 (.int .i64)))), cod := (.int .u64), n := 1, pre := pre20, f := fn20 }
theorem run20 (W : Cfg) (Q : Int → Prop) (x : (Int × (Int × Int))) : run (env tab4 (fun _ _ => none)) (fun _ _ _ => none) (fun v _ => finQ 1 (.int .u64) Q v) W 100000 (startFr 20 Tryd.f20 (bodyOf Tryd.f20) (argsOf (.st (.int .u64) (.st (.int .i64) (.st1 (.int .i64)))) x)) [] [] = (tree20 x).wp Q := by kernel_rfl
theorem ok20 : SpecOk env0 20 spec20 := SpecOk.env rfl (fun _ _ h => h) (spec_of_tree (E := (env tab4 (fun _ _ => none))) (sp := spec20) (valid _ _) (fun f sp h => SpecOk.env rfl (fun _ _ h => h) (tab4_ok f sp h)) (fn := Tryd.f20) (c := (bodyOf Tryd.f20)) (by kernel_rfl) (by kernel_rfl) tree20 run20 (fun _ h => Tr.gives_val h))

noncomputable def tab20 : FuncId → Option Spec
  | 20 => some spec20
  | f => tab4 f
theorem tab20_ok : ∀ f sp, tab20 f = some sp → SpecOk env0 f sp := by
  intro f sp h
  unfold tab20 at h
  split at h
  · cases h; exact ok20
  · exact tab4_ok f sp h

/-! ### sundial/sundiallaw01.BitsBack -/
noncomputable def tree5 (x : (Int × (Int × (Int × (Int × Bool))))) : Tr Bool :=
  let y0 : (Int × (Int × Bool)) := x.2.2
  let y1 : Int := y0.1
  let y2 : (Int × Int) := (x.1, y1)
  .need (pre18 y2) <|
  let y3 : (Int × Bool) := y0.2
  let y4 : (Int × (Bool × Int)) := (x.2.1, (y3.2, y1))
  let y5 : (Int × (Int × (Bool × Int))) := (x.1, y4)
  .need (pre15 y5) <|
  let y6 : (Int × (Bool × Bool)) := (fn15 y5)
  let y7 : (Int × (Int × (Bool × Int))) := (y6.1, y4)
  .need (pre16 y7) <|
  let y8 : Int := y3.1
  .ite ((ilt 1099511627776 y8) == false) (
    .ite (ilt y8 (-1099511627776)) (
      .need (pre12 ()) <|
      .ret (fn12 ())) (
      let y9 : (List Int) := (fn18 y2)
      .ite ((ieq (y9.length : Int) (imin (imax y1 1) 8)) == true) (
        .need (pre19 y9) <|
        .need (pre14 y2) <|
        let y10 : Int := (fn14 y2)
        .ite ((ieq (fn19 y9) y10) == true) (
          .need (pre14 y2) <|
          let y11 : (Int × (Bool × Bool)) := (fn16 y7)
          .ite ((ieq y11.1 y10) == true) (
            .ite ((y11.2.1 == y6.2.1) == true) (
              let y12 : (Int × (Int × Int)) := (x.1, (y8, y1))
              .need (pre20 y12) <|
              let y13 : (Int × (Int × Int)) := ((fn20 y12), ((ineg .i64 y8), y1))
              .need (pre20 y13) <|
              .need (pre14 y2) <|
              .ite ((ieq (fn20 y13) y10) == true) (
                .need (pre13 y2) <|
                let y14 : Int := (fn13 y2)
                let y15 : (Int × Int) := (y14, y1)
                .need (pre13 y15) <|
                .need (pre13 y2) <|
                .ite ((ieq (fn13 y15) y14) == true) (
                  .need (pre12 ()) <|
                  .ret (fn12 ())) (
                  .ret false)) (
                .ret false)) (
              .ret false)) (
            .ret false)) (
          .ret false)) (
        .ret false))) (
    .need (pre12 ()) <|
    .ret (fn12 ()))
noncomputable def fn5 (x : (Int × (Int × (Int × (Int × Bool))))) : Bool := (tree5 x).val
def pre5 (x : (Int × (Int × (Int × (Int × Bool))))) : Prop := (tree5 x).ok
noncomputable def spec5 : Spec := { dom := (.st (.int .u64) (.st (.int .u64) (.st (.int .i64) (.st (.int .i64) (.st1 .bool))))), cod := .bool, n := 1, pre := pre5, f := fn5 }
theorem run5 (W : Cfg) (Q : Bool → Prop) (x : (Int × (Int × (Int × (Int × Bool))))) : run (env tab20 (fun _ _ => none)) (fun _ _ _ => none) (fun v _ => finQ 1 .bool Q v) W 100000 (startFr 5 Tryd.f5 (bodyOf Tryd.f5) (argsOf (.st (.int .u64) (.st (.int .u64) (.st (.int .i64) (.st (.int .i64) (.st1 .bool))))) x)) [] [] = (tree5 x).wp Q := by kernel_rfl
theorem ok5 : SpecOk env0 5 spec5 := SpecOk.env rfl (fun _ _ h => h) (spec_of_tree (E := (env tab20 (fun _ _ => none))) (sp := spec5) (valid _ _) (fun f sp h => SpecOk.env rfl (fun _ _ h => h) (tab20_ok f sp h)) (fn := Tryd.f5) (c := (bodyOf Tryd.f5)) (by kernel_rfl) (by kernel_rfl) tree5 run5 (fun _ h => Tr.gives_val h))

noncomputable def tab5 : FuncId → Option Spec
  | 5 => some spec5
  | f => tab20 f
theorem tab5_ok : ∀ f sp, tab5 f = some sp → SpecOk env0 f sp := by
  intro f sp h
  unfold tab5 at h
  split at h
  · cases h; exact ok5
  · exact tab20_ok f sp h

/-! ### sundial/sundiallaw01.BitsTurn -/
inductive J6 where
  | h0 (v4 : Int) (v5 : Int) (v6 : Int) (v7 : Int)
noncomputable def tree6 (x : (Int × (Int × (Int × Int)))) : Tr (J6 ⊕ Bool) :=
  let y0 : Int := x.2.1
  let y1 : (Int × Int) := x.2.2
  let y2 : Int := y1.1
  .ite ((ilt 1099511627776 (imax y0 y2)) == false) (
    .ite (ilt (imin y0 y2) (-1099511627776)) (
      .need (pre12 ()) <|
      .ret (.inr (fn12 ()))) (
      let y3 : Int := y1.2
      let y4 : (Int × (Int × Int)) := (x.1, (y0, y3))
      .need (pre20 y4) <|
      .ret (.inl (.h0 (imul .i64 8 (imin (imax y3 1) 8)) (fn20 y4) 0 0)))) (
    .need (pre12 ()) <|
    .ret (.inr (fn12 ())))
noncomputable def step6 (x : (Int × (Int × (Int × Int)))) : J6 → Tr (J6 ⊕ Bool)
  | .h0 v4 v5 v6 v7 =>
    .ite (ilt v7 64) (
      .need ((0 : Int) ≤ (iconv .u64 v7)) <|
      let y0 : (Int × Int) := x.2.2
      let y1 : Int := y0.2
      let y2 : (Int × Int) := (x.1, y1)
      .need (pre14 y2) <|
      .need ((0 : Int) ≤ (iconv .u64 v7)) <|
      let y3 : Int := (fn14 y2)
      .ret (.inl (.h0 v4 v5 (isub .i64 (iadd .i64 v6 (iconv .i64 (iand .u64 (ishr .u64 v5 (iconv .u64 v7)) 1))) (iconv .i64 (iand .u64 (ishr .u64 y3 (iconv .u64 v7)) 1))) (iadd .i64 v7 1)))) (
      .ite ((ieq v6 0) == true) (
        let y4 : (Int × Int) := x.2.2
        let y5 : (Int × (Int × Int)) := (v5, y4)
        .need (pre20 y5) <|
        let y6 : Int := y4.2
        let y7 : (Int × (Int × Int)) := (x.1, ((iadd .i64 x.2.1 y4.1), y6))
        .need (pre20 y7) <|
        .ite ((ieq (fn20 y5) (fn20 y7)) == true) (
          let y8 : (Int × (Int × Int)) := (x.1, (v4, y6))
          .need (pre20 y8) <|
          let y9 : (Int × Int) := (x.1, y6)
          .need (pre14 y9) <|
          let y10 : Int := (fn14 y9)
          .ite ((ieq (fn20 y8) y10) == true) (
            let y11 : (Int × (Int × Int)) := (x.1, ((ineg .i64 v4), y6))
            .need (pre20 y11) <|
            .need (pre14 y9) <|
            .ite ((ieq (fn20 y11) y10) == true) (
              .need (pre12 ()) <|
              .ret (.inr (fn12 ()))) (
              .ret (.inr false))) (
            .ret (.inr false))) (
          .ret (.inr false))) (
        .ret (.inr false)))
noncomputable def head6 (x : (Int × (Int × (Int × Int)))) : J6 → Head
  | .h0 v4 v5 v6 v7 =>
    { fr := { id := 6, kind := .top, T := [(.int .u64 x.1), (.int .i64 x.2.1), (.int .i64 x.2.2.1), (.int .i64 x.2.2.2)] ++ List.replicate 5 .any ++ [(.int .i64 v4), (.int .u64 v5), (.int .i64 v6), (.int .i64 v7)] ++ List.replicate 79 .any, items := [.lp (subc [1, 1, 1, 1, 1, 0, 1, 0, 0] (bodyOf Tryd.f6)), .blk 0, .code (subc [1, 1, 1, 1, 1, 1] (bodyOf Tryd.f6))], D := [], base := 0 },
      stk := [],
      H := [] }
noncomputable def stop6 : FuncId → Nat → Nat → Option Cut
  | 6, 0, 0 => some { tmps := [0, 1, 2, 3, 9, 10, 11, 12], loops := [], dead := [] }
  | _, _, _ => none
noncomputable def fn6 (x : (Int × (Int × (Int × Int)))) : Bool := endVal (TC.dflt .bool) (step6 x) (tree6 x)
def pre6 (x : (Int × (Int × (Int × Int)))) : Prop := ∃ r, Ends (step6 x) r (tree6 x)
noncomputable def spec6 : Spec := { dom := (.st (.int .u64) (.st (.int .i64) (.st (.int .i64) (.st1 (.int .i64))))), cod := .bool, n := 1, pre := pre6, f := fn6 }
theorem run6 (W : Cfg) (Q : Bool → Prop) (x : (Int × (Int × (Int × Int)))) : run (env tab5 (fun _ _ => none)) stop6 (fun v _ => finQ 1 .bool Q v) W 100000 (startFr 6 Tryd.f6 (bodyOf Tryd.f6) (argsOf (.st (.int .u64) (.st (.int .i64) (.st (.int .i64) (.st1 (.int .i64))))) x)) [] [] = (tree6 x).wp (kont W Q (head6 x)) := by kernel_rfl
theorem run6h0 (W : Cfg) (Q : Bool → Prop) (x : (Int × (Int × (Int × Int)))) (v4 : Int) (v5 : Int) (v6 : Int) (v7 : Int) : run (env tab5 (fun _ _ => none)) stop6 (fun v _ => finQ 1 .bool Q v) W 100000 (head6 x (.h0 v4 v5 v6 v7)).fr.enter (head6 x (.h0 v4 v5 v6 v7)).stk (head6 x (.h0 v4 v5 v6 v7)).H = (step6 x (.h0 v4 v5 v6 v7)).wp (kont W Q (head6 x)) := by kernel_rfl
theorem runs6 (W : Cfg) (Q : Bool → Prop) (x : (Int × (Int × (Int × Int)))) : ∀ j : J6, run (env tab5 (fun _ _ => none)) stop6 (fun v _ => finQ 1 .bool Q v) W 100000 (head6 x j).fr.enter (head6 x j).stk (head6 x j).H = (step6 x j).wp (kont W Q (head6 x))
  | .h0 v4 v5 v6 v7 => run6h0 W Q x v4 v5 v6 v7
theorem ok6 : SpecOk env0 6 spec6 := SpecOk.env rfl (fun _ _ h => h) (spec_of_trees (E := (env tab5 (fun _ _ => none))) (sp := spec6) (valid _ _) (fun f sp h => SpecOk.env rfl (fun _ _ h => h) (tab5_ok f sp h)) (fn := Tryd.f6) (c := (bodyOf Tryd.f6)) (by kernel_rfl) (by kernel_rfl) tree6 step6 head6 run6 runs6 (fun _ h => endVal_ends h))

noncomputable def tab6 : FuncId → Option Spec
  | 6 => some spec6
  | f => tab5 f
theorem tab6_ok : ∀ f sp, tab6 f = some sp → SpecOk env0 f sp := by
  intro f sp h
  unfold tab6 at h
  split at h
  · cases h; exact ok6
  · exact tab5_ok f sp h

/-! ### sundial/sundialref01.wide -/
noncomputable def tree58 (x : Int) : Tr Int :=
  .ret (imin (imax x 1) 8)
noncomputable def fn58 (x : Int) : Int := (tree58 x).val
def pre58 (x : Int) : Prop := (tree58 x).ok
noncomputable def spec58 : Spec := { dom := (.st1 (.int .i64)), cod := (.int .i64), n := 1, pre := pre58, f := fn58 }
theorem run58 (W : Cfg) (Q : Int → Prop) (x : Int) : run (env tab6 (fun _ _ => none)) (fun _ _ _ => none) (fun v _ => finQ 1 (.int .i64) Q v) W 100000 (startFr 58 Tryd.f58 (bodyOf Tryd.f58) (argsOf (.st1 (.int .i64)) x)) [] [] = (tree58 x).wp Q := by kernel_rfl
theorem ok58 : SpecOk env0 58 spec58 := SpecOk.env rfl (fun _ _ h => h) (spec_of_tree (E := (env tab6 (fun _ _ => none))) (sp := spec58) (valid _ _) (fun f sp h => SpecOk.env rfl (fun _ _ h => h) (tab6_ok f sp h)) (fn := Tryd.f58) (c := (bodyOf Tryd.f58)) (by kernel_rfl) (by kernel_rfl) tree58 run58 (fun _ h => Tr.gives_val h))

noncomputable def tab58 : FuncId → Option Spec
  | 58 => some spec58
  | f => tab6 f
theorem tab58_ok : ∀ f sp, tab58 f = some sp → SpecOk env0 f sp := by
  intro f sp h
  unfold tab58 at h
  split at h
  · cases h; exact ok58
  · exact tab6_ok f sp h

/-! ### sundial/sundialref01.Mask -/
inductive J53 where
  | h0 (v1 : Int) (v2 : Int)
noncomputable def tree53 (_x : Int) : Tr (J53 ⊕ Int) :=
  .ret (.inl (.h0 0 0))
noncomputable def step53 (x : Int) : J53 → Tr (J53 ⊕ Int)
  | .h0 v1 v2 =>
    .need (pre58 x) <|
    .ite (ilt v2 (imul .i64 8 (fn58 x))) (
      .need ((0 : Int) ≤ (iconv .u64 v2)) <|
      .ret (.inl (.h0 (ior .u64 v1 (ishl .u64 1 (iconv .u64 v2))) (iadd .i64 v2 1)))) (
      .ret (.inr v1))
noncomputable def head53 (x : Int) : J53 → Head
  | .h0 v1 v2 =>
    { fr := { id := 53, kind := .top, T := [(.int .i64 x), .any, .any, (.int .u64 v1), (.int .i64 v2)] ++ List.replicate 13 .any, items := [.lp (subc [1, 1, 0, 1, 0, 0] (bodyOf Tryd.f53)), .blk 0, .code (subc [1, 1, 1] (bodyOf Tryd.f53))], D := [], base := 0 },
      stk := [],
      H := [] }
noncomputable def stop53 : FuncId → Nat → Nat → Option Cut
  | 53, 0, 0 => some { tmps := [0, 3, 4], loops := [], dead := [] }
  | _, _, _ => none
noncomputable def fn53 (x : Int) : Int := endVal (TC.dflt (.int .u64)) (step53 x) (tree53 x)
def pre53 (x : Int) : Prop := ∃ r, Ends (step53 x) r (tree53 x)
noncomputable def spec53 : Spec := { dom := (.st1 (.int .i64)), cod := (.int .u64), n := 1, pre := pre53, f := fn53 }
theorem run53 (W : Cfg) (Q : Int → Prop) (x : Int) : run (env tab58 (fun _ _ => none)) stop53 (fun v _ => finQ 1 (.int .u64) Q v) W 100000 (startFr 53 Tryd.f53 (bodyOf Tryd.f53) (argsOf (.st1 (.int .i64)) x)) [] [] = (tree53 x).wp (kont W Q (head53 x)) := by kernel_rfl
theorem run53h0 (W : Cfg) (Q : Int → Prop) (x : Int) (v1 : Int) (v2 : Int) : run (env tab58 (fun _ _ => none)) stop53 (fun v _ => finQ 1 (.int .u64) Q v) W 100000 (head53 x (.h0 v1 v2)).fr.enter (head53 x (.h0 v1 v2)).stk (head53 x (.h0 v1 v2)).H = (step53 x (.h0 v1 v2)).wp (kont W Q (head53 x)) := by kernel_rfl
theorem runs53 (W : Cfg) (Q : Int → Prop) (x : Int) : ∀ j : J53, run (env tab58 (fun _ _ => none)) stop53 (fun v _ => finQ 1 (.int .u64) Q v) W 100000 (head53 x j).fr.enter (head53 x j).stk (head53 x j).H = (step53 x j).wp (kont W Q (head53 x))
  | .h0 v1 v2 => run53h0 W Q x v1 v2
theorem ok53 : SpecOk env0 53 spec53 := SpecOk.env rfl (fun _ _ h => h) (spec_of_trees (E := (env tab58 (fun _ _ => none))) (sp := spec53) (valid _ _) (fun f sp h => SpecOk.env rfl (fun _ _ h => h) (tab58_ok f sp h)) (fn := Tryd.f53) (c := (bodyOf Tryd.f53)) (by kernel_rfl) (by kernel_rfl) tree53 step53 head53 run53 runs53 (fun _ h => endVal_ends h))

noncomputable def tab53 : FuncId → Option Spec
  | 53 => some spec53
  | f => tab58 f
theorem tab53_ok : ∀ f sp, tab53 f = some sp → SpecOk env0 f sp := by
  intro f sp h
  unfold tab53 at h
  split at h
  · cases h; exact ok53
  · exact tab58_ok f sp h

/-! ### sundial/sundialref01.Cut -/
noncomputable def tree21 (x : (Int × Int)) : Tr Int :=
  .need (pre53 x.2) <|
  .ret (iand .u64 x.1 (fn53 x.2))
noncomputable def fn21 (x : (Int × Int)) : Int := (tree21 x).val
def pre21 (x : (Int × Int)) : Prop := (tree21 x).ok
noncomputable def spec21 : Spec := { dom := (.st (.int .u64) (.st1 (.int .i64))), cod := (.int .u64), n := 1, pre := pre21, f := fn21 }
theorem run21 (W : Cfg) (Q : Int → Prop) (x : (Int × Int)) : run (env tab53 (fun _ _ => none)) (fun _ _ _ => none) (fun v _ => finQ 1 (.int .u64) Q v) W 100000 (startFr 21 Tryd.f21 (bodyOf Tryd.f21) (argsOf (.st (.int .u64) (.st1 (.int .i64))) x)) [] [] = (tree21 x).wp Q := by kernel_rfl
theorem ok21 : SpecOk env0 21 spec21 := SpecOk.env rfl (fun _ _ h => h) (spec_of_tree (E := (env tab53 (fun _ _ => none))) (sp := spec21) (valid _ _) (fun f sp h => SpecOk.env rfl (fun _ _ h => h) (tab53_ok f sp h)) (fn := Tryd.f21) (c := (bodyOf Tryd.f21)) (by kernel_rfl) (by kernel_rfl) tree21 run21 (fun _ h => Tr.gives_val h))

noncomputable def tab21 : FuncId → Option Spec
  | 21 => some spec21
  | f => tab53 f
theorem tab21_ok : ∀ f sp, tab21 f = some sp → SpecOk env0 f sp := by
  intro f sp h
  unfold tab21 at h
  split at h
  · cases h; exact ok21
  · exact tab53_ok f sp h

/-! ### math/bits.Len64 -/
noncomputable def tree74 (x : Int) : Tr Int :=
  .ite (ile 4294967296 x) (
    .need ((0 : Int) ≤ 32) <|
    let y0 : Int := (ishr .u64 x 32)
    .ite (ile 65536 y0) (
      .need ((0 : Int) ≤ 16) <|
      let y1 : Int := (ishr .u64 y0 16)
      .ite (ile 256 y1) (
        .need ((0 : Int) ≤ 8) <|
        let y2 : Int := (iconv .u8 (ishr .u64 y1 8))
        .need ((0 : Int) ≤ y2) <|
        let y3 : Nat := (y2).toNat
        .need (y3 < str1.size) <|
        .ret (iadd .i64 56 (iconv .i64 (strAt str1 y3)))) (
        let y4 : Int := (iconv .u8 y1)
        .need ((0 : Int) ≤ y4) <|
        let y5 : Nat := (y4).toNat
        .need (y5 < str1.size) <|
        .ret (iadd .i64 48 (iconv .i64 (strAt str1 y5))))) (
      .ite (ile 256 y0) (
        .need ((0 : Int) ≤ 8) <|
        let y6 : Int := (iconv .u8 (ishr .u64 y0 8))
        .need ((0 : Int) ≤ y6) <|
        let y7 : Nat := (y6).toNat
        .need (y7 < str1.size) <|
        .ret (iadd .i64 40 (iconv .i64 (strAt str1 y7)))) (
        let y8 : Int := (iconv .u8 y0)
        .need ((0 : Int) ≤ y8) <|
        let y9 : Nat := (y8).toNat
        .need (y9 < str1.size) <|
        .ret (iadd .i64 32 (iconv .i64 (strAt str1 y9)))))) (
    .ite (ile 65536 x) (
      .need ((0 : Int) ≤ 16) <|
      let y10 : Int := (ishr .u64 x 16)
      .ite (ile 256 y10) (
        .need ((0 : Int) ≤ 8) <|
        let y11 : Int := (iconv .u8 (ishr .u64 y10 8))
        .need ((0 : Int) ≤ y11) <|
        let y12 : Nat := (y11).toNat
        .need (y12 < str1.size) <|
        .ret (iadd .i64 24 (iconv .i64 (strAt str1 y12)))) (
        let y13 : Int := (iconv .u8 y10)
        .need ((0 : Int) ≤ y13) <|
        let y14 : Nat := (y13).toNat
        .need (y14 < str1.size) <|
        .ret (iadd .i64 16 (iconv .i64 (strAt str1 y14))))) (
      .ite (ile 256 x) (
        .need ((0 : Int) ≤ 8) <|
        let y15 : Int := (iconv .u8 (ishr .u64 x 8))
        .need ((0 : Int) ≤ y15) <|
        let y16 : Nat := (y15).toNat
        .need (y16 < str1.size) <|
        .ret (iadd .i64 8 (iconv .i64 (strAt str1 y16)))) (
        .need ((0 : Int) ≤ (iconv .u8 x)) <|
        let y17 : Nat := ((iconv .u8 x)).toNat
        .need (y17 < str1.size) <|
        .ret (iadd .i64 0 (iconv .i64 (strAt str1 y17))))))
noncomputable def fn74 (x : Int) : Int := (tree74 x).val
def pre74 (x : Int) : Prop := (tree74 x).ok
noncomputable def spec74 : Spec := { dom := (.st1 (.int .u64)), cod := (.int .i64), n := 1, pre := pre74, f := fn74 }
theorem run74 (W : Cfg) (Q : Int → Prop) (x : Int) : run (env tab21 (fun _ _ => none)) (fun _ _ _ => none) (fun v _ => finQ 1 (.int .i64) Q v) W 100000 (startFr 74 Tryd.f74 (bodyOf Tryd.f74) (argsOf (.st1 (.int .u64)) x)) [] [] = (tree74 x).wp Q := by kernel_rfl
theorem ok74 : SpecOk env0 74 spec74 := SpecOk.env rfl (fun _ _ h => h) (spec_of_tree (E := (env tab21 (fun _ _ => none))) (sp := spec74) (valid _ _) (fun f sp h => SpecOk.env rfl (fun _ _ h => h) (tab21_ok f sp h)) (fn := Tryd.f74) (c := (bodyOf Tryd.f74)) (by kernel_rfl) (by kernel_rfl) tree74 run74 (fun _ h => Tr.gives_val h))

noncomputable def tab74 : FuncId → Option Spec
  | 74 => some spec74
  | f => tab21 f
theorem tab74_ok : ∀ f sp, tab74 f = some sp → SpecOk env0 f sp := by
  intro f sp h
  unfold tab74 at h
  split at h
  · cases h; exact ok74
  · exact tab21_ok f sp h

/-! ### math/bits.LeadingZeros64 -/
noncomputable def tree66 (x : Int) : Tr Int :=
  .need (pre74 x) <|
  .ret (isub .i64 64 (fn74 x))
noncomputable def fn66 (x : Int) : Int := (tree66 x).val
def pre66 (x : Int) : Prop := (tree66 x).ok
noncomputable def spec66 : Spec := { dom := (.st1 (.int .u64)), cod := (.int .i64), n := 1, pre := pre66, f := fn66 }
theorem run66 (W : Cfg) (Q : Int → Prop) (x : Int) : run (env tab74 (fun _ _ => none)) (fun _ _ _ => none) (fun v _ => finQ 1 (.int .i64) Q v) W 100000 (startFr 66 Tryd.f66 (bodyOf Tryd.f66) (argsOf (.st1 (.int .u64)) x)) [] [] = (tree66 x).wp Q := by kernel_rfl
theorem ok66 : SpecOk env0 66 spec66 := SpecOk.env rfl (fun _ _ h => h) (spec_of_tree (E := (env tab74 (fun _ _ => none))) (sp := spec66) (valid _ _) (fun f sp h => SpecOk.env rfl (fun _ _ h => h) (tab74_ok f sp h)) (fn := Tryd.f66) (c := (bodyOf Tryd.f66)) (by kernel_rfl) (by kernel_rfl) tree66 run66 (fun _ h => Tr.gives_val h))

noncomputable def tab66 : FuncId → Option Spec
  | 66 => some spec66
  | f => tab74 f
theorem tab66_ok : ∀ f sp, tab66 f = some sp → SpecOk env0 f sp := by
  intro f sp h
  unfold tab66 at h
  split at h
  · cases h; exact ok66
  · exact tab74_ok f sp h

/-! ### math/bits.Div64 -/
inductive J54 where
  | h0 (v0 : Int) (v1 : Int) (v2 : Int) (v3 : Int) (v4 : Int) (v5 : Int) (v6 : Int) (v7 : Int) (v8 : Int)
  | h1 (v0 : Int) (v1 : Int) (v2 : Int) (v3 : Int) (v4 : Int) (v5 : Int) (v6 : Int) (v7 : Int) (v8 : Int)
noncomputable def tree54 (x : (Int × (Int × Int))) : Tr (J54 ⊕ (Int × Int)) :=
  let y0 : Int := x.2.2
  .ite (ieq y0 0) (
    .fail (.inr (TC.dflt (.st (.int .u64) (.st1 (.int .u64)))))) (
    .ite (ile y0 x.1) (
      .fail (.inr (TC.dflt (.st (.int .u64) (.st1 (.int .u64)))))) (
      .ite (ieq x.1 0) (
        .need ((y0 : Int) ≠ 0) <|
        .need ((y0 : Int) ≠ 0) <|
        let y1 : Int := x.2.1
        .ret (.inr ((iquo .u64 y1 y0), (irem .u64 y1 y0)))) (
        .need (pre66 y0) <|
        let y2 : Int := (iconv .u64 (fn66 y0))
        .need ((0 : Int) ≤ y2) <|
        .need ((0 : Int) ≤ 32) <|
        .need ((0 : Int) ≤ y2) <|
        let y3 : Int := (isub .u64 64 y2)
        .need ((0 : Int) ≤ y3) <|
        .need ((0 : Int) ≤ y2) <|
        .need ((0 : Int) ≤ 32) <|
        let y4 : Int := (ishl .u64 y0 y2)
        let y5 : Int := (ishr .u64 y4 32)
        .need ((y5 : Int) ≠ 0) <|
        let y6 : Int := x.2.1
        let y7 : Int := (ior .u64 (ishl .u64 x.1 y2) (ishr .u64 y6 y3))
        let y8 : Int := (ishl .u64 y6 y2)
        let y9 : Int := (iquo .u64 y7 y5)
        .ret (.inl (.h0 y4 y2 y5 (iand .u64 y4 4294967295) y7 (ishr .u64 y8 32) (iand .u64 y8 4294967295) y9 (isub .u64 y7 (imul .u64 y9 y5)))))))
noncomputable def step54 (_x : (Int × (Int × Int))) : J54 → Tr (J54 ⊕ (Int × Int))
  | .h0 v0 v1 v2 v3 v4 v5 v6 v7 v8 =>
    .ite ((ile 4294967296 v7) == false) (
      .ite (ilt (iadd .u64 (imul .u64 4294967296 v8) v5) (imul .u64 v7 v3)) (
        let y0 : Int := (iadd .u64 v8 v2)
        let y1 : Bool := (ile 4294967296 y0)
        .ite y1 (
          .need ((v2 : Int) ≠ 0) <|
          let y2 : Int := (isub .u64 v7 1)
          let y3 : Int := (iadd .u64 (imul .u64 v4 4294967296) v5)
          let y4 : Int := (isub .u64 y3 (imul .u64 y2 v0))
          let y5 : Int := (iquo .u64 y4 v2)
          let y6 : Int := (isub .u64 y4 (imul .u64 y5 v2))
          .ret (.inl (.h1 v0 v1 v2 v3 v6 y2 y6 y4 y5))) (
          let y7 : Int := (isub .u64 v7 1)
          .ret (.inl (.h0 v0 v1 v2 v3 v4 v5 v6 y7 y0)))) (
        .need ((v2 : Int) ≠ 0) <|
        let y8 : Int := (iadd .u64 (imul .u64 v4 4294967296) v5)
        let y9 : Int := (isub .u64 y8 (imul .u64 v7 v0))
        let y10 : Int := (iquo .u64 y9 v2)
        .ret (.inl (.h1 v0 v1 v2 v3 v6 v7 (isub .u64 y9 (imul .u64 y10 v2)) y9 y10)))) (
      let y11 : Int := (iadd .u64 v8 v2)
      let y12 : Bool := (ile 4294967296 y11)
      .ite y12 (
        .need ((v2 : Int) ≠ 0) <|
        let y13 : Int := (isub .u64 v7 1)
        let y14 : Int := (iadd .u64 (imul .u64 v4 4294967296) v5)
        let y15 : Int := (isub .u64 y14 (imul .u64 y13 v0))
        let y16 : Int := (iquo .u64 y15 v2)
        let y17 : Int := (isub .u64 y15 (imul .u64 y16 v2))
        .ret (.inl (.h1 v0 v1 v2 v3 v6 y13 y17 y15 y16))) (
        let y18 : Int := (isub .u64 v7 1)
        .ret (.inl (.h0 v0 v1 v2 v3 v4 v5 v6 y18 y11))))
  | .h1 v0 v1 v2 v3 v4 v5 v6 v7 v8 =>
    .ite ((ile 4294967296 v8) == false) (
      .ite (ilt (iadd .u64 (imul .u64 4294967296 v6) v4) (imul .u64 v8 v3)) (
        let y0 : Int := (iadd .u64 v6 v2)
        let y1 : Bool := (ile 4294967296 y0)
        .ite y1 (
          .need ((0 : Int) ≤ v1) <|
          let y2 : Int := (imul .u64 v5 4294967296)
          let y3 : Int := (isub .u64 v8 1)
          let y4 : Int := (iadd .u64 (imul .u64 v7 4294967296) v4)
          let y5 : (Int × Int) := ((iadd .u64 y2 y3), (ishr .u64 (isub .u64 y4 (imul .u64 y3 v0)) v1))
          .ret (.inr y5)) (
          let y6 : Int := (isub .u64 v8 1)
          .ret (.inl (.h1 v0 v1 v2 v3 v4 v5 y0 v7 y6)))) (
        .need ((0 : Int) ≤ v1) <|
        let y7 : Int := (imul .u64 v5 4294967296)
        let y8 : Int := (iadd .u64 (imul .u64 v7 4294967296) v4)
        .ret (.inr ((iadd .u64 y7 v8), (ishr .u64 (isub .u64 y8 (imul .u64 v8 v0)) v1))))) (
      let y9 : Int := (iadd .u64 v6 v2)
      let y10 : Bool := (ile 4294967296 y9)
      .ite y10 (
        .need ((0 : Int) ≤ v1) <|
        let y11 : Int := (imul .u64 v5 4294967296)
        let y12 : Int := (isub .u64 v8 1)
        let y13 : Int := (iadd .u64 (imul .u64 v7 4294967296) v4)
        let y14 : (Int × Int) := ((iadd .u64 y11 y12), (ishr .u64 (isub .u64 y13 (imul .u64 y12 v0)) v1))
        .ret (.inr y14)) (
        let y15 : Int := (isub .u64 v8 1)
        .ret (.inl (.h1 v0 v1 v2 v3 v4 v5 y9 v7 y15))))
noncomputable def head54 (_x : (Int × (Int × Int))) : J54 → Head
  | .h0 v0 v1 v2 v3 v4 v5 v6 v7 v8 =>
    { fr := { id := 54, kind := .top, T := [.any, .any, (.int .u64 v0)] ++ List.replicate 5 .any ++ [(.int .u64 v1), (.int .u64 v2), (.int .u64 v3), (.int .u64 v4), .any, (.int .u64 v5), (.int .u64 v6), (.int .u64 v7), (.int .u64 v8)] ++ List.replicate 118 .any, items := [.lp (subc [1, 1, 1, 1, 1, 1, 1, 1, 1, 1, 1, 1, 1, 1, 0, 0, 0] (bodyOf Tryd.f54)), .blk 0, .code (subc [1, 1, 1, 1, 1, 1, 1, 1, 1, 1, 1, 1, 1, 1, 1] (bodyOf Tryd.f54))], D := [], base := 0 },
      stk := [],
      H := [] }
  | .h1 v0 v1 v2 v3 v4 v5 v6 v7 v8 =>
    { fr := { id := 54, kind := .top, T := [.any, .any, (.int .u64 v0)] ++ List.replicate 5 .any ++ [(.int .u64 v1), (.int .u64 v2), (.int .u64 v3), .any, .any, .any, (.int .u64 v4), (.int .u64 v5), (.int .u64 v6), (.int .u64 v7), (.int .u64 v8)] ++ List.replicate 116 .any, items := [.lp (subc [1, 1, 1, 1, 1, 1, 1, 1, 1, 1, 1, 1, 1, 1, 1, 1, 1, 1, 0, 0, 0] (bodyOf Tryd.f54)), .blk 2, .code (subc [1, 1, 1, 1, 1, 1, 1, 1, 1, 1, 1, 1, 1, 1, 1, 1, 1, 1, 1] (bodyOf Tryd.f54))], D := [], base := 0 },
      stk := [],
      H := [] }
noncomputable def stop54 : FuncId → Nat → Nat → Option Cut
  | 54, 0, 0 => some { tmps := [2, 8, 9, 10, 11, 13, 14, 15, 16], loops := [], dead := [] }
  | 54, 2, 0 => some { tmps := [2, 8, 9, 10, 14, 15, 16, 17, 18], loops := [], dead := [] }
  | _, _, _ => none
noncomputable def fn54 (x : (Int × (Int × Int))) : (Int × Int) := endVal (TC.dflt (.st (.int .u64) (.st1 (.int .u64)))) (step54 x) (tree54 x)
def pre54 (x : (Int × (Int × Int))) : Prop := ∃ r, Ends (step54 x) r (tree54 x)
noncomputable def spec54 : Spec := { dom := (.st (.int .u64) (.st (.int .u64) (.st1 (.int .u64)))), cod := (.st (.int .u64) (.st1 (.int .u64))), n := 2, pre := pre54, f := fn54 }
theorem run54 (W : Cfg) (Q : (Int × Int) → Prop) (x : (Int × (Int × Int))) : run (env tab66 (fun _ _ => none)) stop54 (fun v _ => finQ 2 (.st (.int .u64) (.st1 (.int .u64))) Q v) W 100000 (startFr 54 Tryd.f54 (bodyOf Tryd.f54) (argsOf (.st (.int .u64) (.st (.int .u64) (.st1 (.int .u64)))) x)) [] [] = (tree54 x).wp (kont W Q (head54 x)) := by kernel_rfl
theorem run54h0 (W : Cfg) (Q : (Int × Int) → Prop) (x : (Int × (Int × Int))) (v0 : Int) (v1 : Int) (v2 : Int) (v3 : Int) (v4 : Int) (v5 : Int) (v6 : Int) (v7 : Int) (v8 : Int) : run (env tab66 (fun _ _ => none)) stop54 (fun v _ => finQ 2 (.st (.int .u64) (.st1 (.int .u64))) Q v) W 100000 (head54 x (.h0 v0 v1 v2 v3 v4 v5 v6 v7 v8)).fr.enter (head54 x (.h0 v0 v1 v2 v3 v4 v5 v6 v7 v8)).stk (head54 x (.h0 v0 v1 v2 v3 v4 v5 v6 v7 v8)).H = (step54 x (.h0 v0 v1 v2 v3 v4 v5 v6 v7 v8)).wp (kont W Q (head54 x)) := by kernel_rfl
theorem run54h1 (W : Cfg) (Q : (Int × Int) → Prop) (x : (Int × (Int × Int))) (v0 : Int) (v1 : Int) (v2 : Int) (v3 : Int) (v4 : Int) (v5 : Int) (v6 : Int) (v7 : Int) (v8 : Int) : run (env tab66 (fun _ _ => none)) stop54 (fun v _ => finQ 2 (.st (.int .u64) (.st1 (.int .u64))) Q v) W 100000 (head54 x (.h1 v0 v1 v2 v3 v4 v5 v6 v7 v8)).fr.enter (head54 x (.h1 v0 v1 v2 v3 v4 v5 v6 v7 v8)).stk (head54 x (.h1 v0 v1 v2 v3 v4 v5 v6 v7 v8)).H = (step54 x (.h1 v0 v1 v2 v3 v4 v5 v6 v7 v8)).wp (kont W Q (head54 x)) := by kernel_rfl
theorem runs54 (W : Cfg) (Q : (Int × Int) → Prop) (x : (Int × (Int × Int))) : ∀ j : J54, run (env tab66 (fun _ _ => none)) stop54 (fun v _ => finQ 2 (.st (.int .u64) (.st1 (.int .u64))) Q v) W 100000 (head54 x j).fr.enter (head54 x j).stk (head54 x j).H = (step54 x j).wp (kont W Q (head54 x))
  | .h0 v0 v1 v2 v3 v4 v5 v6 v7 v8 => run54h0 W Q x v0 v1 v2 v3 v4 v5 v6 v7 v8
  | .h1 v0 v1 v2 v3 v4 v5 v6 v7 v8 => run54h1 W Q x v0 v1 v2 v3 v4 v5 v6 v7 v8
theorem ok54 : SpecOk env0 54 spec54 := SpecOk.env rfl (fun _ _ h => h) (spec_of_trees (E := (env tab66 (fun _ _ => none))) (sp := spec54) (valid _ _) (fun f sp h => SpecOk.env rfl (fun _ _ h => h) (tab66_ok f sp h)) (fn := Tryd.f54) (c := (bodyOf Tryd.f54)) (by kernel_rfl) (by kernel_rfl) tree54 step54 head54 run54 runs54 (fun _ h => endVal_ends h))

noncomputable def tab54 : FuncId → Option Spec
  | 54 => some spec54
  | f => tab66 f
theorem tab54_ok : ∀ f sp, tab54 f = some sp → SpecOk env0 f sp := by
  intro f sp h
  unfold tab54 at h
  split at h
  · cases h; exact ok54
  · exact tab66_ok f sp h

/-! ### sundial/alu.Div -/
noncomputable def tree22 (x : (Int × (Int × (Int × Int)))) : Tr (Int × (Int × Bool)) :=
  let y0 : (Int × Int) := (x.2.1, x.1)
  .need (pre14 y0) <|
  let y1 : (Int × Int) := x.2.2
  let y2 : (Int × Int) := (y1.1, x.1)
  .need (pre14 y2) <|
  let y3 : (Int × Int) := (y1.2, x.1)
  .need (pre14 y3) <|
  let y4 : Int := (fn14 y3)
  .ite ((ieq y4 0) == false) (
    let y5 : Int := (fn14 y0)
    .ite (ile y4 y5) (
      let y6 : (Int × (Int × Bool)) := (0, (0, false))
      .ret y6) (
      let y7 : Int := (imul .i64 8 (imin (imax x.1 1) 8))
      .ite (ilt y7 64) (
        .need ((0 : Int) ≤ y7) <|
        let y8 : Int := (isub .i64 64 y7)
        .need ((0 : Int) ≤ y8) <|
        let y9 : Int := (fn14 y2)
        let y10 : (Int × (Int × Int)) := ((ishr .u64 y5 y8), ((ior .u64 y9 (ishl .u64 y5 y7)), y4))
        .need (pre54 y10) <|
        let y11 : (Int × Int) := (fn54 y10)
        .ret (y11.1, (y11.2, true))) (
        let y12 : Int := (fn14 y2)
        let y13 : (Int × (Int × Int)) := (y5, (y12, y4))
        .need (pre54 y13) <|
        let y14 : (Int × Int) := (fn54 y13)
        .ret (y14.1, (y14.2, true))))) (
    let y15 : (Int × (Int × Bool)) := (0, (0, false))
    .ret y15)
noncomputable def fn22 (x : (Int × (Int × (Int × Int)))) : (Int × (Int × Bool)) := (tree22 x).val
def pre22 (x : (Int × (Int × (Int × Int)))) : Prop := (tree22 x).ok
noncomputable def spec22 : Spec := { dom := (.st (.int .i64) (.st (.int .u64) (.st (.int .u64) (.st1 (.int .u64))))), cod := (.st (.int .u64) (.st (.int .u64) (.st1 .bool))), n := 3, pre := pre22, f := fn22 }
theorem run22 (W : Cfg) (Q : (Int × (Int × Bool)) → Prop) (x : (Int × (Int × (Int × Int)))) : run (env tab54 (fun _ _ => none)) (fun _ _ _ => none) (fun v _ => finQ 3 (.st (.int .u64) (.st (.int .u64) (.st1 .bool))) Q v) W 100000 (startFr 22 Tryd.f22 (bodyOf Tryd.f22) (argsOf (.st (.int .i64) (.st (.int .u64) (.st (.int .u64) (.st1 (.int .u64))))) x)) [] [] = (tree22 x).wp Q := by kernel_rfl
theorem ok22 : SpecOk env0 22 spec22 := SpecOk.env rfl (fun _ _ h => h) (spec_of_tree (E := (env tab54 (fun _ _ => none))) (sp := spec22) (valid _ _) (fun f sp h => SpecOk.env rfl (fun _ _ h => h) (tab54_ok f sp h)) (fn := Tryd.f22) (c := (bodyOf Tryd.f22)) (by kernel_rfl) (by kernel_rfl) tree22 run22 (fun _ h => Tr.gives_val h))

noncomputable def tab22 : FuncId → Option Spec
  | 22 => some spec22
  | f => tab54 f
theorem tab22_ok : ∀ f sp, tab22 f = some sp → SpecOk env0 f sp := by
  intro f sp h
  unfold tab22 at h
  split at h
  · cases h; exact ok22
  · exact tab54_ok f sp h

/-! ### sundial/alu.Logic -/
noncomputable def tree34 (x : (Int × Int)) : Tr (Bool × (Bool × (Bool × (Bool × Bool)))) :=
  let y0 : (Int × Int) := (x.2, x.1)
  .need (pre14 y0) <|
  .need (pre49 y0) <|
  .need (pre17 x.2) <|
  .ret (false, ((ieq (fn14 y0) 0), ((fn49 y0), (false, (fn17 x.2)))))
noncomputable def fn34 (x : (Int × Int)) : (Bool × (Bool × (Bool × (Bool × Bool)))) := (tree34 x).val
def pre34 (x : (Int × Int)) : Prop := (tree34 x).ok
noncomputable def spec34 : Spec := { dom := (.st (.int .i64) (.st1 (.int .u64))), cod := (.st .bool (.st .bool (.st .bool (.st .bool (.st1 .bool))))), n := 1, pre := pre34, f := fn34 }
theorem run34 (W : Cfg) (Q : (Bool × (Bool × (Bool × (Bool × Bool)))) → Prop) (x : (Int × Int)) : run (env tab22 (fun _ _ => none)) (fun _ _ _ => none) (fun v _ => finQ 1 (.st .bool (.st .bool (.st .bool (.st .bool (.st1 .bool))))) Q v) W 100000 (startFr 34 Tryd.f34 (bodyOf Tryd.f34) (argsOf (.st (.int .i64) (.st1 (.int .u64))) x)) [] [] = (tree34 x).wp Q := by kernel_rfl
theorem ok34 : SpecOk env0 34 spec34 := SpecOk.env rfl (fun _ _ h => h) (spec_of_tree (E := (env tab22 (fun _ _ => none))) (sp := spec34) (valid _ _) (fun f sp h => SpecOk.env rfl (fun _ _ h => h) (tab22_ok f sp h)) (fn := Tryd.f34) (c := (bodyOf Tryd.f34)) (by kernel_rfl) (by kernel_rfl) tree34 run34 (fun _ h => Tr.gives_val h))

noncomputable def tab34 : FuncId → Option Spec
  | 34 => some spec34
  | f => tab22 f
theorem tab34_ok : ∀ f sp, tab34 f = some sp → SpecOk env0 f sp := by
  intro f sp h
  unfold tab34 at h
  split at h
  · cases h; exact ok34
  · exact tab22_ok f sp h

/-! ### sundial/alu.told -/
noncomputable def tree56 (x : (Int × (Int × (Bool × Bool)))) : Tr (Int × (Bool × (Bool × (Bool × (Bool × Bool))))) :=
  let y0 : Int := x.2.1
  let y1 : (Int × Int) := (x.1, y0)
  .need (pre34 y1) <|
  let y2 : (Bool × Bool) := x.2.2
  let y3 : (Bool × (Bool × (Bool × Bool))) := (fn34 y1).2
  let y4 : (Bool × (Bool × Bool)) := y3.2
  .ret (y0, (y2.1, (y3.1, (y4.1, (y2.2, y4.2.2)))))
noncomputable def fn56 (x : (Int × (Int × (Bool × Bool)))) : (Int × (Bool × (Bool × (Bool × (Bool × Bool))))) := (tree56 x).val
def pre56 (x : (Int × (Int × (Bool × Bool)))) : Prop := (tree56 x).ok
noncomputable def spec56 : Spec := { dom := (.st (.int .i64) (.st (.int .u64) (.st .bool (.st1 .bool)))), cod := (.st (.int .u64) (.st1 (.st .bool (.st .bool (.st .bool (.st .bool (.st1 .bool))))))), n := 2, pre := pre56, f := fn56 }
theorem run56 (W : Cfg) (Q : (Int × (Bool × (Bool × (Bool × (Bool × Bool))))) → Prop) (x : (Int × (Int × (Bool × Bool)))) : run (env tab34 (fun _ _ => none)) (fun _ _ _ => none) (fun v _ => finQ 2 (.st (.int .u64) (.st1 (.st .bool (.st .bool (.st .bool (.st .bool (.st1 .bool))))))) Q v) W 100000 (startFr 56 Tryd.f56 (bodyOf Tryd.f56) (argsOf (.st (.int .i64) (.st (.int .u64) (.st .bool (.st1 .bool)))) x)) [] [] = (tree56 x).wp Q := by kernel_rfl
theorem ok56 : SpecOk env0 56 spec56 := SpecOk.env rfl (fun _ _ h => h) (spec_of_tree (E := (env tab34 (fun _ _ => none))) (sp := spec56) (valid _ _) (fun f sp h => SpecOk.env rfl (fun _ _ h => h) (tab34_ok f sp h)) (fn := Tryd.f56) (c := (bodyOf Tryd.f56)) (by kernel_rfl) (by kernel_rfl) tree56 run56 (fun _ h => Tr.gives_val h))

noncomputable def tab56 : FuncId → Option Spec
  | 56 => some spec56
  | f => tab34 f
theorem tab56_ok : ∀ f sp, tab56 f = some sp → SpecOk env0 f sp := by
  intro f sp h
  unfold tab56 at h
  split at h
  · cases h; exact ok56
  · exact tab34_ok f sp h

/-! ### sundial/alu.Sub -/
noncomputable def tree26 (x : (Int × (Int × (Int × Bool)))) : Tr (Int × (Bool × (Bool × (Bool × (Bool × Bool))))) :=
  let y0 : (Int × Bool) := x.2.2
  let y1 : (Int × (Int × (Bool × Int))) := (x.2.1, (y0.1, (y0.2, x.1)))
  .need (pre16 y1) <|
  let y2 : (Int × (Int × (Bool × Bool))) := (x.1, (fn16 y1))
  .need (pre56 y2) <|
  .ret (fn56 y2)
noncomputable def fn26 (x : (Int × (Int × (Int × Bool)))) : (Int × (Bool × (Bool × (Bool × (Bool × Bool))))) := (tree26 x).val
def pre26 (x : (Int × (Int × (Int × Bool)))) : Prop := (tree26 x).ok
noncomputable def spec26 : Spec := { dom := (.st (.int .i64) (.st (.int .u64) (.st (.int .u64) (.st1 .bool)))), cod := (.st (.int .u64) (.st1 (.st .bool (.st .bool (.st .bool (.st .bool (.st1 .bool))))))), n := 2, pre := pre26, f := fn26 }
theorem run26 (W : Cfg) (Q : (Int × (Bool × (Bool × (Bool × (Bool × Bool))))) → Prop) (x : (Int × (Int × (Int × Bool)))) : run (env tab56 (fun _ _ => none)) (fun _ _ _ => none) (fun v _ => finQ 2 (.st (.int .u64) (.st1 (.st .bool (.st .bool (.st .bool (.st .bool (.st1 .bool))))))) Q v) W 100000 (startFr 26 Tryd.f26 (bodyOf Tryd.f26) (argsOf (.st (.int .i64) (.st (.int .u64) (.st (.int .u64) (.st1 .bool)))) x)) [] [] = (tree26 x).wp Q := by kernel_rfl
theorem ok26 : SpecOk env0 26 spec26 := SpecOk.env rfl (fun _ _ h => h) (spec_of_tree (E := (env tab56 (fun _ _ => none))) (sp := spec26) (valid _ _) (fun f sp h => SpecOk.env rfl (fun _ _ h => h) (tab56_ok f sp h)) (fn := Tryd.f26) (c := (bodyOf Tryd.f26)) (by kernel_rfl) (by kernel_rfl) tree26 run26 (fun _ h => Tr.gives_val h))

noncomputable def tab26 : FuncId → Option Spec
  | 26 => some spec26
  | f => tab56 f
theorem tab26_ok : ∀ f sp, tab26 f = some sp → SpecOk env0 f sp := by
  intro f sp h
  unfold tab26 at h
  split at h
  · cases h; exact ok26
  · exact tab56_ok f sp h

/-! ### sundial/alu.shifts$1 -/
noncomputable def tree67 (x : (Int × (Int × ((Bool × (Bool × (Bool × (Bool × Bool)))) × (Bool × Bool))))) : Tr (Int × (Bool × (Bool × (Bool × (Bool × Bool))))) :=
  let y0 : ((Bool × (Bool × (Bool × (Bool × Bool)))) × (Bool × Bool)) := x.2.2
  let y1 : (Bool × Bool) := y0.2
  let y2 : (Bool × (Bool × (Bool × Bool))) := y0.1.2
  let y3 : (Bool × (Bool × Bool)) := y2.2
  .ret (x.2.1, (y1.1, (y2.1, (y3.1, (y1.2, y3.2.2)))))
noncomputable def fn67 (x : (Int × (Int × ((Bool × (Bool × (Bool × (Bool × Bool)))) × (Bool × Bool))))) : (Int × (Bool × (Bool × (Bool × (Bool × Bool))))) := (tree67 x).val
def pre67 (x : (Int × (Int × ((Bool × (Bool × (Bool × (Bool × Bool)))) × (Bool × Bool))))) : Prop := (tree67 x).ok
noncomputable def spec67 : Spec := { dom := (.st (.int .i64) (.st (.int .u64) (.st (.st .bool (.st .bool (.st .bool (.st .bool (.st1 .bool))))) (.st .bool (.st1 .bool))))), cod := (.st (.int .u64) (.st1 (.st .bool (.st .bool (.st .bool (.st .bool (.st1 .bool))))))), n := 2, pre := pre67, f := fn67 }
theorem run67 (W : Cfg) (Q : (Int × (Bool × (Bool × (Bool × (Bool × Bool))))) → Prop) (x : (Int × (Int × ((Bool × (Bool × (Bool × (Bool × Bool)))) × (Bool × Bool))))) : run (env tab26 (fun _ _ => none)) (fun _ _ _ => none) (fun v _ => finQ 2 (.st (.int .u64) (.st1 (.st .bool (.st .bool (.st .bool (.st .bool (.st1 .bool))))))) Q v) W 100000 (startFr 67 Tryd.f67 (bodyOf Tryd.f67) (argsOf (.st (.int .i64) (.st (.int .u64) (.st (.st .bool (.st .bool (.st .bool (.st .bool (.st1 .bool))))) (.st .bool (.st1 .bool))))) x)) [] [] = (tree67 x).wp Q := by kernel_rfl
theorem ok67 : SpecOk env0 67 spec67 := SpecOk.env rfl (fun _ _ h => h) (spec_of_tree (E := (env tab26 (fun _ _ => none))) (sp := spec67) (valid _ _) (fun f sp h => SpecOk.env rfl (fun _ _ h => h) (tab26_ok f sp h)) (fn := Tryd.f67) (c := (bodyOf Tryd.f67)) (by kernel_rfl) (by kernel_rfl) tree67 run67 (fun _ h => Tr.gives_val h))

noncomputable def tab67 : FuncId → Option Spec
  | 67 => some spec67
  | f => tab26 f
theorem tab67_ok : ∀ f sp, tab67 f = some sp → SpecOk env0 f sp := by
  intro f sp h
  unfold tab67 at h
  split at h
  · cases h; exact ok67
  · exact tab26_ok f sp h

/-! ### sundial/alu.fallen -/
inductive J69 where
  | h0 (v1 : Int) (v10 : Int) (v11 : Bool) (v12 : Int)
noncomputable def tree69 (x : (Int × (Int × (Int × Bool)))) : Tr (J69 ⊕ (Int × Bool)) :=
  .ret (.inl (.h0 0 0 false x.1))
noncomputable def step69 (x : (Int × (Int × (Int × Bool)))) : J69 → Tr (J69 ⊕ (Int × Bool))
  | .h0 v1 v10 v11 v12 =>
    let y0 : (Int × Bool) := x.2.2
    .ite (ilt v1 y0.1) (
      let y1 : Int := x.2.1
      let y2 : (Int × Int) := (v12, y1)
      .need (pre49 y2) <|
      .ite y0.2 (
        .need ((0 : Int) ≤ 1) <|
        let y3 : (Int × Int) := ((ishl .u64 v12 1), y1)
        .need (pre14 y3) <|
        let y4 : Int := (iadd .i64 v1 1)
        let y5 : Int := (fn14 y3)
        .ret (.inl (.h0 y4 y5 (fn49 y2) y5))) (
        .need ((0 : Int) ≤ 1) <|
        let y6 : Int := (iadd .i64 v1 1)
        let y7 : Int := (ishr .u64 v12 1)
        .ret (.inl (.h0 y6 y7 (ieq (iand .u64 v12 1) 1) y7)))) (
      .ret (.inr (v10, v11)))
noncomputable def head69 (x : (Int × (Int × (Int × Bool)))) : J69 → Head
  | .h0 v1 v10 v11 v12 =>
    { fr := { id := 76, kind := (.iter 7), T := [(.yld 7), .any, (.ptr 2 []), (.ptr 3 []), (.ptr 5 []), .any, .any, (.int .i64 x.2.2.1), (.int .i64 v1)] ++ List.replicate 20 .any, items := [.lp (subc [1, 0, 0] (bodyOf Tryd.f76)), .blk 0], D := [], base := 8 },
      stk := [{ id := 69, kind := .top, T := [(.int .u64 x.1), (.int .i64 x.2.1), (.int .i64 x.2.2.1), (.bool x.2.2.2)] ++ List.replicate 4 .undef ++ [(.ptr 0 []), (.ptr 1 []), .undef, .undef, (.int .u64 x.1), (.int .i64 x.2.1), (.int .i64 x.2.2.1), (.bool x.2.2.2), (.fn 76 [(.ptr 4 []), (.ptr 2 []), (.ptr 3 []), (.ptr 5 [])])] ++ List.replicate 6 .undef, items := [.fin 7, .blk 0, .code (subc [1, 1] (bodyOf Tryd.f69))], D := [6], base := 0 }],
      H := [.cell true 22 (.int .u64 v10), .cell true 4 (.bool v11), .cell true 22 (.int .u64 v12), .cell true 3 (.int .i64 x.2.1), .cell true 3 (.int .i64 x.2.2.1), .cell true 4 (.bool x.2.2.2), .dfd, .loop .ready none 69 (List.replicate 8 .any ++ [(.ptr 0 []), (.ptr 1 [])] ++ List.replicate 13 .any) [17, 18] (subc [1, 0, 1, 0, 0] (bodyOf Tryd.f69)) (subc [1, 0, 1, 0, 1] (bodyOf Tryd.f69)) 6] }
noncomputable def stop69 : FuncId → Nat → Nat → Option Cut
  | 76, 0, 8 => some { tmps := [0, 2, 3, 4, 7, 8], loops := [(7, [8, 9])], dead := [] }
  | _, _, _ => none
noncomputable def fn69 (x : (Int × (Int × (Int × Bool)))) : (Int × Bool) := endVal (TC.dflt (.st (.int .u64) (.st1 .bool))) (step69 x) (tree69 x)
def pre69 (x : (Int × (Int × (Int × Bool)))) : Prop := ∃ r, Ends (step69 x) r (tree69 x)
noncomputable def spec69 : Spec := { dom := (.st (.int .u64) (.st (.int .i64) (.st (.int .i64) (.st1 .bool)))), cod := (.st (.int .u64) (.st1 .bool)), n := 2, pre := pre69, f := fn69 }
theorem run69 (W : Cfg) (Q : (Int × Bool) → Prop) (x : (Int × (Int × (Int × Bool)))) : run (env tab67 (fun _ _ => none)) stop69 (fun v _ => finQ 2 (.st (.int .u64) (.st1 .bool)) Q v) W 100000 (startFr 69 Tryd.f69 (bodyOf Tryd.f69) (argsOf (.st (.int .u64) (.st (.int .i64) (.st (.int .i64) (.st1 .bool)))) x)) [] [] = (tree69 x).wp (kont W Q (head69 x)) := by kernel_rfl
theorem run69h0 (W : Cfg) (Q : (Int × Bool) → Prop) (x : (Int × (Int × (Int × Bool)))) (v1 : Int) (v10 : Int) (v11 : Bool) (v12 : Int) : run (env tab67 (fun _ _ => none)) stop69 (fun v _ => finQ 2 (.st (.int .u64) (.st1 .bool)) Q v) W 100000 (head69 x (.h0 v1 v10 v11 v12)).fr.enter (head69 x (.h0 v1 v10 v11 v12)).stk (head69 x (.h0 v1 v10 v11 v12)).H = (step69 x (.h0 v1 v10 v11 v12)).wp (kont W Q (head69 x)) := by kernel_rfl
theorem runs69 (W : Cfg) (Q : (Int × Bool) → Prop) (x : (Int × (Int × (Int × Bool)))) : ∀ j : J69, run (env tab67 (fun _ _ => none)) stop69 (fun v _ => finQ 2 (.st (.int .u64) (.st1 .bool)) Q v) W 100000 (head69 x j).fr.enter (head69 x j).stk (head69 x j).H = (step69 x j).wp (kont W Q (head69 x))
  | .h0 v1 v10 v11 v12 => run69h0 W Q x v1 v10 v11 v12
theorem ok69 : SpecOk env0 69 spec69 := SpecOk.env rfl (fun _ _ h => h) (spec_of_trees (E := (env tab67 (fun _ _ => none))) (sp := spec69) (valid _ _) (fun f sp h => SpecOk.env rfl (fun _ _ h => h) (tab67_ok f sp h)) (fn := Tryd.f69) (c := (bodyOf Tryd.f69)) (by kernel_rfl) (by kernel_rfl) tree69 step69 head69 run69 runs69 (fun _ h => endVal_ends h))

noncomputable def tab69 : FuncId → Option Spec
  | 69 => some spec69
  | f => tab67 f
theorem tab69_ok : ∀ f sp, tab69 f = some sp → SpecOk env0 f sp := by
  intro f sp h
  unfold tab69 at h
  split at h
  · cases h; exact ok69
  · exact tab67_ok f sp h

/-! ### sundial/alu.shifts$2 -/
noncomputable def tree68 (x : (Int × (Int × (Int × (Bool × (Bool × (Bool × (Bool × Bool)))))))) : Tr (Int × (Bool × (Bool × (Bool × (Bool × Bool))))) :=
  let y0 : (Int × (Int × (Int × Bool))) := (x.2.1, (x.1, (x.2.2.1, true)))
  .need (pre69 y0) <|
  let y1 : (Int × Bool) := (fn69 y0)
  let y2 : Int := y1.1
  let y3 : (Int × Int) := (y2, x.1)
  .need (pre49 y3) <|
  let y4 : Bool := y1.2
  let y5 : (Int × (Int × (Bool × Bool))) := (x.1, (y2, (y4, (!((fn49 y3) == y4)))))
  .need (pre56 y5) <|
  .ret (fn56 y5)
noncomputable def fn68 (x : (Int × (Int × (Int × (Bool × (Bool × (Bool × (Bool × Bool)))))))) : (Int × (Bool × (Bool × (Bool × (Bool × Bool))))) := (tree68 x).val
def pre68 (x : (Int × (Int × (Int × (Bool × (Bool × (Bool × (Bool × Bool)))))))) : Prop := (tree68 x).ok
noncomputable def spec68 : Spec := { dom := (.st (.int .i64) (.st (.int .u64) (.st (.int .i64) (.st1 (.st .bool (.st .bool (.st .bool (.st .bool (.st1 .bool))))))))), cod := (.st (.int .u64) (.st1 (.st .bool (.st .bool (.st .bool (.st .bool (.st1 .bool))))))), n := 2, pre := pre68, f := fn68 }
theorem run68 (W : Cfg) (Q : (Int × (Bool × (Bool × (Bool × (Bool × Bool))))) → Prop) (x : (Int × (Int × (Int × (Bool × (Bool × (Bool × (Bool × Bool)))))))) : run (env tab69 (fun _ _ => none)) (fun _ _ _ => none) (fun v _ => finQ 2 (.st (.int .u64) (.st1 (.st .bool (.st .bool (.st .bool (.st .bool (.st1 .bool))))))) Q v) W 100000 (startFr 68 Tryd.f68 (bodyOf Tryd.f68) (argsOf (.st (.int .i64) (.st (.int .u64) (.st (.int .i64) (.st1 (.st .bool (.st .bool (.st .bool (.st .bool (.st1 .bool))))))))) x)) [] [] = (tree68 x).wp Q := by kernel_rfl
theorem ok68 : SpecOk env0 68 spec68 := SpecOk.env rfl (fun _ _ h => h) (spec_of_tree (E := (env tab69 (fun _ _ => none))) (sp := spec68) (valid _ _) (fun f sp h => SpecOk.env rfl (fun _ _ h => h) (tab69_ok f sp h)) (fn := Tryd.f68) (c := (bodyOf Tryd.f68)) (by kernel_rfl) (by kernel_rfl) tree68 run68 (fun _ h => Tr.gives_val h))

noncomputable def tab68 : FuncId → Option Spec
  | 68 => some spec68
  | f => tab69 f
theorem tab68_ok : ∀ f sp, tab68 f = some sp → SpecOk env0 f sp := by
  intro f sp h
  unfold tab68 at h
  split at h
  · cases h; exact ok68
  · exact tab69_ok f sp h

/-! ### sundial/alu.shifts$3 -/
noncomputable def tree70 (x : (Int × (Int × (Int × (Bool × (Bool × (Bool × (Bool × Bool)))))))) : Tr (Int × (Bool × (Bool × (Bool × (Bool × Bool))))) :=
  let y0 : Int := x.2.1
  let y1 : (Int × (Int × (Int × Bool))) := (y0, (x.1, (x.2.2.1, false)))
  .need (pre69 y1) <|
  let y2 : (Int × Int) := (y0, x.1)
  .need (pre49 y2) <|
  let y3 : (Int × Bool) := (fn69 y1)
  let y4 : (Int × (Int × (Bool × Bool))) := (x.1, (y3.1, (y3.2, (fn49 y2))))
  .need (pre56 y4) <|
  .ret (fn56 y4)
noncomputable def fn70 (x : (Int × (Int × (Int × (Bool × (Bool × (Bool × (Bool × Bool)))))))) : (Int × (Bool × (Bool × (Bool × (Bool × Bool))))) := (tree70 x).val
def pre70 (x : (Int × (Int × (Int × (Bool × (Bool × (Bool × (Bool × Bool)))))))) : Prop := (tree70 x).ok
noncomputable def spec70 : Spec := { dom := (.st (.int .i64) (.st (.int .u64) (.st (.int .i64) (.st1 (.st .bool (.st .bool (.st .bool (.st .bool (.st1 .bool))))))))), cod := (.st (.int .u64) (.st1 (.st .bool (.st .bool (.st .bool (.st .bool (.st1 .bool))))))), n := 2, pre := pre70, f := fn70 }
theorem run70 (W : Cfg) (Q : (Int × (Bool × (Bool × (Bool × (Bool × Bool))))) → Prop) (x : (Int × (Int × (Int × (Bool × (Bool × (Bool × (Bool × Bool)))))))) : run (env tab68 (fun _ _ => none)) (fun _ _ _ => none) (fun v _ => finQ 2 (.st (.int .u64) (.st1 (.st .bool (.st .bool (.st .bool (.st .bool (.st1 .bool))))))) Q v) W 100000 (startFr 70 Tryd.f70 (bodyOf Tryd.f70) (argsOf (.st (.int .i64) (.st (.int .u64) (.st (.int .i64) (.st1 (.st .bool (.st .bool (.st .bool (.st .bool (.st1 .bool))))))))) x)) [] [] = (tree70 x).wp Q := by kernel_rfl
theorem ok70 : SpecOk env0 70 spec70 := SpecOk.env rfl (fun _ _ h => h) (spec_of_tree (E := (env tab68 (fun _ _ => none))) (sp := spec70) (valid _ _) (fun f sp h => SpecOk.env rfl (fun _ _ h => h) (tab68_ok f sp h)) (fn := Tryd.f70) (c := (bodyOf Tryd.f70)) (by kernel_rfl) (by kernel_rfl) tree70 run70 (fun _ h => Tr.gives_val h))

noncomputable def tab70 : FuncId → Option Spec
  | 70 => some spec70
  | f => tab68 f
theorem tab70_ok : ∀ f sp, tab70 f = some sp → SpecOk env0 f sp := by
  intro f sp h
  unfold tab70 at h
  split at h
  · cases h; exact ok70
  · exact tab68_ok f sp h

/-! ### sundial/alu.shifts$4 -/
noncomputable def tree71 (x : (Int × (Int × (Int × (Bool × (Bool × (Bool × (Bool × Bool)))))))) : Tr (Int × (Bool × (Bool × (Bool × (Bool × Bool))))) :=
  let y0 : (Int × Int) := (x.2.1, x.1)
  .need (pre13 y0) <|
  let y1 : Int := x.2.2.1
  .need ((0 : Int) ≤ y1) <|
  let y2 : Int := (iconv .i64 (fn13 y0))
  let y3 : (Int × Int) := ((iconv .u64 (ishr .i64 y2 y1)), x.1)
  .need (pre14 y3) <|
  let y4 : Int := (isub .i64 y1 1)
  .need ((0 : Int) ≤ y4) <|
  let y5 : (Int × (Int × (Bool × Bool))) := (x.1, ((fn14 y3), ((ieq (iand .i64 (ishr .i64 y2 y4) 1) 1), false)))
  .need (pre56 y5) <|
  .ret (fn56 y5)
noncomputable def fn71 (x : (Int × (Int × (Int × (Bool × (Bool × (Bool × (Bool × Bool)))))))) : (Int × (Bool × (Bool × (Bool × (Bool × Bool))))) := (tree71 x).val
def pre71 (x : (Int × (Int × (Int × (Bool × (Bool × (Bool × (Bool × Bool)))))))) : Prop := (tree71 x).ok
noncomputable def spec71 : Spec := { dom := (.st (.int .i64) (.st (.int .u64) (.st (.int .i64) (.st1 (.st .bool (.st .bool (.st .bool (.st .bool (.st1 .bool))))))))), cod := (.st (.int .u64) (.st1 (.st .bool (.st .bool (.st .bool (.st .bool (.st1 .bool))))))), n := 2, pre := pre71, f := fn71 }
theorem run71 (W : Cfg) (Q : (Int × (Bool × (Bool × (Bool × (Bool × Bool))))) → Prop) (x : (Int × (Int × (Int × (Bool × (Bool × (Bool × (Bool × Bool)))))))) : run (env tab70 (fun _ _ => none)) (fun _ _ _ => none) (fun v _ => finQ 2 (.st (.int .u64) (.st1 (.st .bool (.st .bool (.st .bool (.st .bool (.st1 .bool))))))) Q v) W 100000 (startFr 71 Tryd.f71 (bodyOf Tryd.f71) (argsOf (.st (.int .i64) (.st (.int .u64) (.st (.int .i64) (.st1 (.st .bool (.st .bool (.st .bool (.st .bool (.st1 .bool))))))))) x)) [] [] = (tree71 x).wp Q := by kernel_rfl
theorem ok71 : SpecOk env0 71 spec71 := SpecOk.env rfl (fun _ _ h => h) (spec_of_tree (E := (env tab70 (fun _ _ => none))) (sp := spec71) (valid _ _) (fun f sp h => SpecOk.env rfl (fun _ _ h => h) (tab70_ok f sp h)) (fn := Tryd.f71) (c := (bodyOf Tryd.f71)) (by kernel_rfl) (by kernel_rfl) tree71 run71 (fun _ h => Tr.gives_val h))

noncomputable def tab71 : FuncId → Option Spec
  | 71 => some spec71
  | f => tab70 f
theorem tab71_ok : ∀ f sp, tab71 f = some sp → SpecOk env0 f sp := by
  intro f sp h
  unfold tab71 at h
  split at h
  · cases h; exact ok71
  · exact tab70_ok f sp h

/-! ### sundial/alu.Shift -/
noncomputable def tree30 (x : (Int × (Int × (Int × (Int × (Bool × (Bool × (Bool × (Bool × Bool))))))))) : Tr (Int × (Bool × (Bool × (Bool × (Bool × Bool))))) :=
  let y0 : (Int × (Int × (Bool × (Bool × (Bool × (Bool × Bool)))))) := x.2.2
  let y1 : Int := x.2.1
  let y2 : (Int × Int) := (y0.1, y1)
  .need (pre14 y2) <|
  .ite (ile 8 y1) (
    let y3 : Bool := (ieq x.1 16)
    .ite y3 (
      let y4 : (Int × (Bool × (Bool × (Bool × (Bool × Bool))))) := y0.2
      let y5 : Int := (iconv .i64 y4.1)
      let y6 : Int := (iand .i64 y5 63)
      let y7 : Bool := (ieq y6 0)
      .ite y7 (
        let y8 : Int := (fn14 y2)
        let y9 : (Bool × (Bool × (Bool × (Bool × Bool)))) := y4.2
        let y10 : (Int × (Bool × (Bool × (Bool × (Bool × Bool))))) := (y8, y9)
        .ret y10) (
        let y11 : Int := (fn14 y2)
        let y12 : (Bool × (Bool × (Bool × (Bool × Bool)))) := y4.2
        let y13 : (Int × (Int × (Int × (Bool × (Bool × (Bool × (Bool × Bool))))))) := (y1, (y11, (y6, y12)))
        .need (pre68 y13) <|
        .ret (fn68 y13))) (
      let y14 : Bool := (ieq x.1 17)
      .ite y14 (
        let y15 : (Int × (Bool × (Bool × (Bool × (Bool × Bool))))) := y0.2
        let y16 : Int := (iconv .i64 y15.1)
        let y17 : Int := (iand .i64 y16 63)
        let y18 : Bool := (ieq y17 0)
        .ite y18 (
          let y19 : Int := (fn14 y2)
          let y20 : (Bool × (Bool × (Bool × (Bool × Bool)))) := y15.2
          let y21 : (Int × (Bool × (Bool × (Bool × (Bool × Bool))))) := (y19, y20)
          .ret y21) (
          let y22 : Int := (fn14 y2)
          let y23 : (Bool × (Bool × (Bool × (Bool × Bool)))) := y15.2
          let y24 : (Int × (Int × (Int × (Bool × (Bool × (Bool × (Bool × Bool))))))) := (y1, (y22, (y17, y23)))
          .need (pre70 y24) <|
          .ret (fn70 y24))) (
        let y25 : Bool := (ieq x.1 18)
        .ite y25 (
          let y26 : (Int × (Bool × (Bool × (Bool × (Bool × Bool))))) := y0.2
          let y27 : Int := (iconv .i64 y26.1)
          let y28 : Int := (iand .i64 y27 63)
          let y29 : Bool := (ieq y28 0)
          .ite y29 (
            let y30 : Int := (fn14 y2)
            let y31 : (Bool × (Bool × (Bool × (Bool × Bool)))) := y26.2
            let y32 : (Int × (Bool × (Bool × (Bool × (Bool × Bool))))) := (y30, y31)
            .ret y32) (
            let y33 : Int := (fn14 y2)
            let y34 : (Bool × (Bool × (Bool × (Bool × Bool)))) := y26.2
            let y35 : (Int × (Int × (Int × (Bool × (Bool × (Bool × (Bool × Bool))))))) := (y1, (y33, (y28, y34)))
            .need (pre71 y35) <|
            .ret (fn71 y35))) (
          let y36 : Bool := (ieq x.1 19)
          .ite y36 (
            let y37 : (Int × (Bool × (Bool × (Bool × (Bool × Bool))))) := y0.2
            let y38 : Int := (iconv .i64 y37.1)
            let y39 : Int := (iand .i64 y38 63)
            let y40 : Bool := (ieq y39 0)
            .ite y40 (
              let y41 : Int := (fn14 y2)
              let y42 : (Bool × (Bool × (Bool × (Bool × Bool)))) := y37.2
              let y43 : (Int × (Bool × (Bool × (Bool × (Bool × Bool))))) := (y41, y42)
              .ret y43) (
              let y44 : Int := (fn14 y2)
              let y45 : (Int × (Int × Int)) := (y44, (y39, y1))
              .need (pre20 y45) <|
              let y46 : Int := (fn20 y45)
              let y47 : (Int × Int) := (y46, y1)
              .need (pre49 y47) <|
              let y48 : (Bool × (Bool × (Bool × (Bool × Bool)))) := y37.2
              let y49 : Bool := (ieq (iand .u64 y46 1) 1)
              let y50 : (Int × (Int × ((Bool × (Bool × (Bool × (Bool × Bool)))) × (Bool × Bool)))) := (y1, (y46, (y48, (y49, (!((fn49 y47) == y49))))))
              .need (pre67 y50) <|
              .ret (fn67 y50))) (
            let y51 : Bool := (ieq x.1 20)
            .ite y51 (
              let y52 : (Int × (Bool × (Bool × (Bool × (Bool × Bool))))) := y0.2
              let y53 : Int := (iconv .i64 y52.1)
              let y54 : Int := (iand .i64 y53 63)
              let y55 : Bool := (ieq y54 0)
              .ite y55 (
                let y56 : Int := (fn14 y2)
                let y57 : (Bool × (Bool × (Bool × (Bool × Bool)))) := y52.2
                let y58 : (Int × (Bool × (Bool × (Bool × (Bool × Bool))))) := (y56, y57)
                .ret y58) (
                let y59 : Int := (fn14 y2)
                let y60 : (Int × (Int × Int)) := (y59, ((ineg .i64 y54), y1))
                .need (pre20 y60) <|
                let y61 : Int := (fn20 y60)
                let y62 : (Int × Int) := (y61, y1)
                .need (pre49 y62) <|
                .need ((0 : Int) ≤ 1) <|
                let y63 : (Int × Int) := ((ixor .u64 y61 (ishl .u64 y61 1)), y1)
                .need (pre49 y63) <|
                let y64 : (Bool × (Bool × (Bool × (Bool × Bool)))) := y52.2
                let y65 : (Int × (Int × ((Bool × (Bool × (Bool × (Bool × Bool)))) × (Bool × Bool)))) := (y1, (y61, (y64, ((fn49 y62), (fn49 y63)))))
                .need (pre67 y65) <|
                .ret (fn67 y65))) (
              let y66 : Int := (fn14 y2)
              let y67 : (Int × (Bool × (Bool × (Bool × (Bool × Bool))))) := y0.2
              let y68 : (Bool × (Bool × (Bool × (Bool × Bool)))) := y67.2
              let y69 : (Int × (Bool × (Bool × (Bool × (Bool × Bool))))) := (y66, y68)
              .ret y69)))))) (
    let y70 : Bool := (ieq x.1 16)
    .ite y70 (
      let y71 : (Int × (Bool × (Bool × (Bool × (Bool × Bool))))) := y0.2
      let y72 : Int := (iconv .i64 y71.1)
      let y73 : Int := (iand .i64 y72 31)
      let y74 : Bool := (ieq y73 0)
      .ite y74 (
        let y75 : Int := (fn14 y2)
        let y76 : (Bool × (Bool × (Bool × (Bool × Bool)))) := y71.2
        let y77 : (Int × (Bool × (Bool × (Bool × (Bool × Bool))))) := (y75, y76)
        .ret y77) (
        let y78 : Int := (fn14 y2)
        let y79 : (Bool × (Bool × (Bool × (Bool × Bool)))) := y71.2
        let y80 : (Int × (Int × (Int × (Bool × (Bool × (Bool × (Bool × Bool))))))) := (y1, (y78, (y73, y79)))
        .need (pre68 y80) <|
        .ret (fn68 y80))) (
      let y81 : Bool := (ieq x.1 17)
      .ite y81 (
        let y82 : (Int × (Bool × (Bool × (Bool × (Bool × Bool))))) := y0.2
        let y83 : Int := (iconv .i64 y82.1)
        let y84 : Int := (iand .i64 y83 31)
        let y85 : Bool := (ieq y84 0)
        .ite y85 (
          let y86 : Int := (fn14 y2)
          let y87 : (Bool × (Bool × (Bool × (Bool × Bool)))) := y82.2
          let y88 : (Int × (Bool × (Bool × (Bool × (Bool × Bool))))) := (y86, y87)
          .ret y88) (
          let y89 : Int := (fn14 y2)
          let y90 : (Bool × (Bool × (Bool × (Bool × Bool)))) := y82.2
          let y91 : (Int × (Int × (Int × (Bool × (Bool × (Bool × (Bool × Bool))))))) := (y1, (y89, (y84, y90)))
          .need (pre70 y91) <|
          .ret (fn70 y91))) (
        let y92 : Bool := (ieq x.1 18)
        .ite y92 (
          let y93 : (Int × (Bool × (Bool × (Bool × (Bool × Bool))))) := y0.2
          let y94 : Int := (iconv .i64 y93.1)
          let y95 : Int := (iand .i64 y94 31)
          let y96 : Bool := (ieq y95 0)
          .ite y96 (
            let y97 : Int := (fn14 y2)
            let y98 : (Bool × (Bool × (Bool × (Bool × Bool)))) := y93.2
            let y99 : (Int × (Bool × (Bool × (Bool × (Bool × Bool))))) := (y97, y98)
            .ret y99) (
            let y100 : Int := (fn14 y2)
            let y101 : (Bool × (Bool × (Bool × (Bool × Bool)))) := y93.2
            let y102 : (Int × (Int × (Int × (Bool × (Bool × (Bool × (Bool × Bool))))))) := (y1, (y100, (y95, y101)))
            .need (pre71 y102) <|
            .ret (fn71 y102))) (
          let y103 : Bool := (ieq x.1 19)
          .ite y103 (
            let y104 : (Int × (Bool × (Bool × (Bool × (Bool × Bool))))) := y0.2
            let y105 : Int := (iconv .i64 y104.1)
            let y106 : Int := (iand .i64 y105 31)
            let y107 : Bool := (ieq y106 0)
            .ite y107 (
              let y108 : Int := (fn14 y2)
              let y109 : (Bool × (Bool × (Bool × (Bool × Bool)))) := y104.2
              let y110 : (Int × (Bool × (Bool × (Bool × (Bool × Bool))))) := (y108, y109)
              .ret y110) (
              let y111 : Int := (fn14 y2)
              let y112 : (Int × (Int × Int)) := (y111, (y106, y1))
              .need (pre20 y112) <|
              let y113 : Int := (fn20 y112)
              let y114 : (Int × Int) := (y113, y1)
              .need (pre49 y114) <|
              let y115 : (Bool × (Bool × (Bool × (Bool × Bool)))) := y104.2
              let y116 : Bool := (ieq (iand .u64 y113 1) 1)
              let y117 : (Int × (Int × ((Bool × (Bool × (Bool × (Bool × Bool)))) × (Bool × Bool)))) := (y1, (y113, (y115, (y116, (!((fn49 y114) == y116))))))
              .need (pre67 y117) <|
              .ret (fn67 y117))) (
            let y118 : Bool := (ieq x.1 20)
            .ite y118 (
              let y119 : (Int × (Bool × (Bool × (Bool × (Bool × Bool))))) := y0.2
              let y120 : Int := (iconv .i64 y119.1)
              let y121 : Int := (iand .i64 y120 31)
              let y122 : Bool := (ieq y121 0)
              .ite y122 (
                let y123 : Int := (fn14 y2)
                let y124 : (Bool × (Bool × (Bool × (Bool × Bool)))) := y119.2
                let y125 : (Int × (Bool × (Bool × (Bool × (Bool × Bool))))) := (y123, y124)
                .ret y125) (
                let y126 : Int := (fn14 y2)
                let y127 : (Int × (Int × Int)) := (y126, ((ineg .i64 y121), y1))
                .need (pre20 y127) <|
                let y128 : Int := (fn20 y127)
                let y129 : (Int × Int) := (y128, y1)
                .need (pre49 y129) <|
                .need ((0 : Int) ≤ 1) <|
                let y130 : (Int × Int) := ((ixor .u64 y128 (ishl .u64 y128 1)), y1)
                .need (pre49 y130) <|
                let y131 : (Bool × (Bool × (Bool × (Bool × Bool)))) := y119.2
                let y132 : (Int × (Int × ((Bool × (Bool × (Bool × (Bool × Bool)))) × (Bool × Bool)))) := (y1, (y128, (y131, ((fn49 y129), (fn49 y130)))))
                .need (pre67 y132) <|
                .ret (fn67 y132))) (
              let y133 : Int := (fn14 y2)
              let y134 : (Int × (Bool × (Bool × (Bool × (Bool × Bool))))) := y0.2
              let y135 : (Bool × (Bool × (Bool × (Bool × Bool)))) := y134.2
              let y136 : (Int × (Bool × (Bool × (Bool × (Bool × Bool))))) := (y133, y135)
              .ret y136))))))
noncomputable def fn30 (x : (Int × (Int × (Int × (Int × (Bool × (Bool × (Bool × (Bool × Bool))))))))) : (Int × (Bool × (Bool × (Bool × (Bool × Bool))))) := (tree30 x).val
def pre30 (x : (Int × (Int × (Int × (Int × (Bool × (Bool × (Bool × (Bool × Bool))))))))) : Prop := (tree30 x).ok
noncomputable def spec30 : Spec := { dom := (.st (.int .u8) (.st (.int .i64) (.st (.int .u64) (.st (.int .u8) (.st1 (.st .bool (.st .bool (.st .bool (.st .bool (.st1 .bool)))))))))), cod := (.st (.int .u64) (.st1 (.st .bool (.st .bool (.st .bool (.st .bool (.st1 .bool))))))), n := 2, pre := pre30, f := fn30 }
theorem run30 (W : Cfg) (Q : (Int × (Bool × (Bool × (Bool × (Bool × Bool))))) → Prop) (x : (Int × (Int × (Int × (Int × (Bool × (Bool × (Bool × (Bool × Bool))))))))) : run (env tab71 (fun _ _ => none)) (fun _ _ _ => none) (fun v _ => finQ 2 (.st (.int .u64) (.st1 (.st .bool (.st .bool (.st .bool (.st .bool (.st1 .bool))))))) Q v) W 100000 (startFr 30 Tryd.f30 (bodyOf Tryd.f30) (argsOf (.st (.int .u8) (.st (.int .i64) (.st (.int .u64) (.st (.int .u8) (.st1 (.st .bool (.st .bool (.st .bool (.st .bool (.st1 .bool)))))))))) x)) [] [] = (tree30 x).wp Q := by kernel_rfl
theorem ok30 : SpecOk env0 30 spec30 := SpecOk.env rfl (fun _ _ h => h) (spec_of_tree (E := (env tab71 (fun _ _ => none))) (sp := spec30) (valid _ _) (fun f sp h => SpecOk.env rfl (fun _ _ h => h) (tab71_ok f sp h)) (fn := Tryd.f30) (c := (bodyOf Tryd.f30)) (by kernel_rfl) (by kernel_rfl) tree30 run30 (fun _ h => Tr.gives_val h))

noncomputable def tab30 : FuncId → Option Spec
  | 30 => some spec30
  | f => tab71 f
theorem tab30_ok : ∀ f sp, tab30 f = some sp → SpecOk env0 f sp := by
  intro f sp h
  unfold tab30 at h
  split at h
  · cases h; exact ok30
  · exact tab71_ok f sp h

/-! ### sundial/sundiallaw13.wakes -/
noncomputable def tree23 (_x : Unit) : Tr Bool :=
  let y0 : (Int × (Int × (Int × Bool))) := (1, (1, (2, false)))
  .need (pre26 y0) <|
  let y1 : (Int × (Int × (Int × Int))) := (8, (0, (7, 2)))
  .need (pre22 y1) <|
  let y2 : (Int × (Int × (Int × Int))) := (8, (0, (7, 0)))
  .need (pre22 y2) <|
  let y3 : (Int × (Int × (Int × (Int × (Bool × (Bool × (Bool × (Bool × Bool)))))))) := (16, (4, (3, (32, (false, (false, (false, (true, false))))))))
  .need (pre30 y3) <|
  let y4 : (Int × (Bool × (Bool × (Bool × (Bool × Bool))))) := (fn26 y0)
  .ite ((ieq y4.1 255) == true) (
    let y5 : (Bool × (Bool × (Bool × (Bool × Bool)))) := y4.2
    let y6 : (Bool × (Bool × (Bool × Bool))) := y5.2
    let y7 : (Bool × (Bool × Bool)) := y6.2
    let y8 : (Bool × Bool) := y7.2
    .ite (((y5.1 == true) && ((y6.1 == false) && ((y7.1 == true) && ((y8.1 == false) && ((y8.2 == true) && true))))) == true) (
      let y9 : (Int × (Int × Bool)) := (fn22 y1)
      .ite ((ieq y9.1 3) == true) (
        let y10 : (Int × Bool) := y9.2
        .ite ((ieq y10.1 1) == true) (
          .ite (y10.2 == true) (
            .ite ((!(fn22 y2).2.2) == true) (
              let y11 : (Int × (Bool × (Bool × (Bool × (Bool × Bool))))) := (fn30 y3)
              .ite ((ieq y11.1 3) == true) (
                let y12 : (Bool × (Bool × (Bool × (Bool × Bool)))) := y11.2
                let y13 : (Bool × (Bool × (Bool × Bool))) := y12.2
                let y14 : (Bool × (Bool × Bool)) := y13.2
                let y15 : (Bool × Bool) := y14.2
                .ret ((y12.1 == false) && ((y13.1 == false) && ((y14.1 == false) && ((y15.1 == true) && ((y15.2 == false) && true)))))) (
                .ret false)) (
              .ret false)) (
            .ret false)) (
          .ret false)) (
        .ret false)) (
      .ret false)) (
    .ret false)
noncomputable def fn23 (x : Unit) : Bool := (tree23 x).val
def pre23 (x : Unit) : Prop := (tree23 x).ok
noncomputable def spec23 : Spec := { dom := .unit, cod := .bool, n := 1, pre := pre23, f := fn23 }
theorem run23 (W : Cfg) (Q : Bool → Prop) (x : Unit) : run (env tab30 (fun _ _ => none)) (fun _ _ _ => none) (fun v _ => finQ 1 .bool Q v) W 100000 (startFr 23 Tryd.f23 (bodyOf Tryd.f23) (argsOf .unit x)) [] [] = (tree23 x).wp Q := by kernel_rfl
theorem ok23 : SpecOk env0 23 spec23 := SpecOk.env rfl (fun _ _ h => h) (spec_of_tree (E := (env tab30 (fun _ _ => none))) (sp := spec23) (valid _ _) (fun f sp h => SpecOk.env rfl (fun _ _ h => h) (tab30_ok f sp h)) (fn := Tryd.f23) (c := (bodyOf Tryd.f23)) (by kernel_rfl) (by kernel_rfl) tree23 run23 (fun _ h => Tr.gives_val h))

noncomputable def tab23 : FuncId → Option Spec
  | 23 => some spec23
  | f => tab30 f
theorem tab23_ok : ∀ f sp, tab23 f = some sp → SpecOk env0 f sp := by
  intro f sp h
  unfold tab23 at h
  split at h
  · cases h; exact ok23
  · exact tab30_ok f sp h

/-! ### math/bits.Mul64 -/
noncomputable def tree55 (x : (Int × Int)) : Tr (Int × Int) :=
  .need ((0 : Int) ≤ 32) <|
  .need ((0 : Int) ≤ 32) <|
  .need ((0 : Int) ≤ 32) <|
  .need ((0 : Int) ≤ 32) <|
  .need ((0 : Int) ≤ 32) <|
  let y0 : Int := (ishr .u64 x.1 32)
  let y1 : Int := (ishr .u64 x.2 32)
  let y2 : Int := (iand .u64 x.2 4294967295)
  let y3 : Int := (iand .u64 x.1 4294967295)
  let y4 : Int := (iadd .u64 (imul .u64 y0 y2) (ishr .u64 (imul .u64 y3 y2) 32))
  .ret ((iadd .u64 (iadd .u64 (imul .u64 y0 y1) (ishr .u64 y4 32)) (ishr .u64 (iadd .u64 (iand .u64 y4 4294967295) (imul .u64 y3 y1)) 32)), (imul .u64 x.1 x.2))
noncomputable def fn55 (x : (Int × Int)) : (Int × Int) := (tree55 x).val
def pre55 (x : (Int × Int)) : Prop := (tree55 x).ok
noncomputable def spec55 : Spec := { dom := (.st (.int .u64) (.st1 (.int .u64))), cod := (.st (.int .u64) (.st1 (.int .u64))), n := 2, pre := pre55, f := fn55 }
theorem run55 (W : Cfg) (Q : (Int × Int) → Prop) (x : (Int × Int)) : run (env tab23 (fun _ _ => none)) (fun _ _ _ => none) (fun v _ => finQ 2 (.st (.int .u64) (.st1 (.int .u64))) Q v) W 100000 (startFr 55 Tryd.f55 (bodyOf Tryd.f55) (argsOf (.st (.int .u64) (.st1 (.int .u64))) x)) [] [] = (tree55 x).wp Q := by kernel_rfl
theorem ok55 : SpecOk env0 55 spec55 := SpecOk.env rfl (fun _ _ h => h) (spec_of_tree (E := (env tab23 (fun _ _ => none))) (sp := spec55) (valid _ _) (fun f sp h => SpecOk.env rfl (fun _ _ h => h) (tab23_ok f sp h)) (fn := Tryd.f55) (c := (bodyOf Tryd.f55)) (by kernel_rfl) (by kernel_rfl) tree55 run55 (fun _ h => Tr.gives_val h))

noncomputable def tab55 : FuncId → Option Spec
  | 55 => some spec55
  | f => tab23 f
theorem tab55_ok : ∀ f sp, tab55 f = some sp → SpecOk env0 f sp := by
  intro f sp h
  unfold tab55 at h
  split at h
  · cases h; exact ok55
  · exact tab23_ok f sp h

/-! ### sundial/alu.Mul -/
noncomputable def tree24 (x : (Int × (Int × Int))) : Tr (Int × (Int × (Bool × (Bool × (Bool × (Bool × Bool)))))) :=
  let y0 : (Int × Int) := (x.2.1, x.1)
  .need (pre14 y0) <|
  let y1 : (Int × Int) := (x.2.2, x.1)
  .need (pre14 y1) <|
  let y2 : (Int × Int) := ((fn14 y0), (fn14 y1))
  .need (pre55 y2) <|
  let y3 : Int := (imul .i64 8 (imin (imax x.1 1) 8))
  .ite (ilt y3 64) (
    let y4 : Int := (isub .i64 64 y3)
    .need ((0 : Int) ≤ y4) <|
    .need ((0 : Int) ≤ y3) <|
    let y5 : (Int × Int) := (fn55 y2)
    let y6 : Int := y5.2
    let y7 : (Int × Int) := (y6, x.1)
    .need (pre14 y7) <|
    let y8 : Int := y5.1
    let y9 : (Int × Int) := ((ior .u64 (ishl .u64 y8 y4) (ishr .u64 y6 y3)), x.1)
    .need (pre14 y9) <|
    let y10 : Int := (fn14 y7)
    let y11 : Int := (fn14 y9)
    let y12 : Bool := (ine y11 0)
    let y13 : (Int × (Int × (Bool × Bool))) := (x.1, (y10, (y12, y12)))
    .need (pre56 y13) <|
    let y14 : (Int × (Bool × (Bool × (Bool × (Bool × Bool))))) := (fn56 y13)
    .ret (y14.1, (y11, y14.2))) (
    let y15 : (Int × Int) := (fn55 y2)
    let y16 : Int := y15.2
    let y17 : (Int × Int) := (y16, x.1)
    .need (pre14 y17) <|
    let y18 : Int := y15.1
    let y19 : (Int × Int) := (y18, x.1)
    .need (pre14 y19) <|
    let y20 : Int := (fn14 y17)
    let y21 : Int := (fn14 y19)
    let y22 : Bool := (ine y21 0)
    let y23 : (Int × (Int × (Bool × Bool))) := (x.1, (y20, (y22, y22)))
    .need (pre56 y23) <|
    let y24 : (Int × (Bool × (Bool × (Bool × (Bool × Bool))))) := (fn56 y23)
    .ret (y24.1, (y21, y24.2)))
noncomputable def fn24 (x : (Int × (Int × Int))) : (Int × (Int × (Bool × (Bool × (Bool × (Bool × Bool)))))) := (tree24 x).val
def pre24 (x : (Int × (Int × Int))) : Prop := (tree24 x).ok
noncomputable def spec24 : Spec := { dom := (.st (.int .i64) (.st (.int .u64) (.st1 (.int .u64)))), cod := (.st (.int .u64) (.st (.int .u64) (.st1 (.st .bool (.st .bool (.st .bool (.st .bool (.st1 .bool)))))))), n := 3, pre := pre24, f := fn24 }
theorem run24 (W : Cfg) (Q : (Int × (Int × (Bool × (Bool × (Bool × (Bool × Bool)))))) → Prop) (x : (Int × (Int × Int))) : run (env tab55 (fun _ _ => none)) (fun _ _ _ => none) (fun v _ => finQ 3 (.st (.int .u64) (.st (.int .u64) (.st1 (.st .bool (.st .bool (.st .bool (.st .bool (.st1 .bool)))))))) Q v) W 100000 (startFr 24 Tryd.f24 (bodyOf Tryd.f24) (argsOf (.st (.int .i64) (.st (.int .u64) (.st1 (.int .u64)))) x)) [] [] = (tree24 x).wp Q := by kernel_rfl
theorem ok24 : SpecOk env0 24 spec24 := SpecOk.env rfl (fun _ _ h => h) (spec_of_tree (E := (env tab55 (fun _ _ => none))) (sp := spec24) (valid _ _) (fun f sp h => SpecOk.env rfl (fun _ _ h => h) (tab55_ok f sp h)) (fn := Tryd.f24) (c := (bodyOf Tryd.f24)) (by kernel_rfl) (by kernel_rfl) tree24 run24 (fun _ h => Tr.gives_val h))

noncomputable def tab24 : FuncId → Option Spec
  | 24 => some spec24
  | f => tab55 f
theorem tab24_ok : ∀ f sp, tab24 f = some sp → SpecOk env0 f sp := by
  intro f sp h
  unfold tab24 at h
  split at h
  · cases h; exact ok24
  · exact tab55_ok f sp h

/-! ### sundial/sundialref01.one -/
noncomputable def tree57 (x : Bool) : Tr Int :=
  .ite x (
    .ret 1) (
    .ret 0)
noncomputable def fn57 (x : Bool) : Int := (tree57 x).val
def pre57 (x : Bool) : Prop := (tree57 x).ok
noncomputable def spec57 : Spec := { dom := (.st1 .bool), cod := (.int .u64), n := 1, pre := pre57, f := fn57 }
theorem run57 (W : Cfg) (Q : Int → Prop) (x : Bool) : run (env tab24 (fun _ _ => none)) (fun _ _ _ => none) (fun v _ => finQ 1 (.int .u64) Q v) W 100000 (startFr 57 Tryd.f57 (bodyOf Tryd.f57) (argsOf (.st1 .bool) x)) [] [] = (tree57 x).wp Q := by kernel_rfl
theorem ok57 : SpecOk env0 57 spec57 := SpecOk.env rfl (fun _ _ h => h) (spec_of_tree (E := (env tab24 (fun _ _ => none))) (sp := spec57) (valid _ _) (fun f sp h => SpecOk.env rfl (fun _ _ h => h) (tab24_ok f sp h)) (fn := Tryd.f57) (c := (bodyOf Tryd.f57)) (by kernel_rfl) (by kernel_rfl) tree57 run57 (fun _ h => Tr.gives_val h))

noncomputable def tab57 : FuncId → Option Spec
  | 57 => some spec57
  | f => tab24 f
theorem tab57_ok : ∀ f sp, tab57 f = some sp → SpecOk env0 f sp := by
  intro f sp h
  unfold tab57 at h
  split at h
  · cases h; exact ok57
  · exact tab24_ok f sp h

/-! ### sundial/sundialref01.Sign -/
noncomputable def tree59 (x : (Int × Int)) : Tr Bool :=
  .need (pre58 x.2) <|
  let y0 : Int := (iconv .u64 (isub .i64 (imul .i64 8 (fn58 x.2)) 1))
  .need ((0 : Int) ≤ y0) <|
  .ret (ieq (iand .u64 (ishr .u64 x.1 y0) 1) 1)
noncomputable def fn59 (x : (Int × Int)) : Bool := (tree59 x).val
def pre59 (x : (Int × Int)) : Prop := (tree59 x).ok
noncomputable def spec59 : Spec := { dom := (.st (.int .u64) (.st1 (.int .i64))), cod := .bool, n := 1, pre := pre59, f := fn59 }
theorem run59 (W : Cfg) (Q : Bool → Prop) (x : (Int × Int)) : run (env tab57 (fun _ _ => none)) (fun _ _ _ => none) (fun v _ => finQ 1 .bool Q v) W 100000 (startFr 59 Tryd.f59 (bodyOf Tryd.f59) (argsOf (.st (.int .u64) (.st1 (.int .i64))) x)) [] [] = (tree59 x).wp Q := by kernel_rfl
theorem ok59 : SpecOk env0 59 spec59 := SpecOk.env rfl (fun _ _ h => h) (spec_of_tree (E := (env tab57 (fun _ _ => none))) (sp := spec59) (valid _ _) (fun f sp h => SpecOk.env rfl (fun _ _ h => h) (tab57_ok f sp h)) (fn := Tryd.f59) (c := (bodyOf Tryd.f59)) (by kernel_rfl) (by kernel_rfl) tree59 run59 (fun _ h => Tr.gives_val h))

noncomputable def tab59 : FuncId → Option Spec
  | 59 => some spec59
  | f => tab57 f
theorem tab59_ok : ∀ f sp, tab59 f = some sp → SpecOk env0 f sp := by
  intro f sp h
  unfold tab59 at h
  split at h
  · cases h; exact ok59
  · exact tab57_ok f sp h

/-! ### sundial/sundialref01.Add -/
inductive J25 where
  | h0 (v3 : Int) (v4 : Int) (v5 : Int)
noncomputable def tree25 (x : (Int × (Int × (Bool × Int)))) : Tr (J25 ⊕ (Int × (Bool × Bool))) :=
  let y0 : Bool := x.2.2.1
  .need (pre57 y0) <|
  .ret (.inl (.h0 (fn57 y0) 0 0))
noncomputable def step25 (x : (Int × (Int × (Bool × Int)))) : J25 → Tr (J25 ⊕ (Int × (Bool × Bool)))
  | .h0 v3 v4 v5 =>
    let y0 : Int := x.2.2.2
    .need (pre58 y0) <|
    .ite (ilt v5 (imul .i64 8 (fn58 y0))) (
      .need ((0 : Int) ≤ (iconv .u64 v5)) <|
      .need ((0 : Int) ≤ (iconv .u64 v5)) <|
      .need ((0 : Int) ≤ (iconv .u64 v5)) <|
      .need ((0 : Int) ≤ 1) <|
      let y1 : Int := x.2.1
      let y2 : Int := (iadd .u64 (iadd .u64 (iand .u64 (ishr .u64 x.1 (iconv .u64 v5)) 1) (iand .u64 (ishr .u64 y1 (iconv .u64 v5)) 1)) v3)
      .ret (.inl (.h0 (ishr .u64 y2 1) (ior .u64 v4 (ishl .u64 (iand .u64 y2 1) (iconv .u64 v5))) (iadd .i64 v5 1)))) (
      let y3 : (Int × Int) := (x.1, y0)
      .need (pre59 y3) <|
      let y4 : Int := x.2.1
      let y5 : (Int × Int) := (y4, y0)
      .need (pre59 y5) <|
      let y6 : Bool := (fn59 y3)
      .ite ((y6 == (fn59 y5)) == true) (
        let y7 : (Int × Int) := (v4, y0)
        .need (pre59 y7) <|
        .need (pre59 y3) <|
        let y8 : Bool := (ieq v3 1)
        .ret (.inr (v4, (y8, (!((fn59 y7) == y6)))))) (
        let y9 : Bool := (ieq v3 1)
        .ret (.inr (v4, (y9, false)))))
noncomputable def head25 (x : (Int × (Int × (Bool × Int)))) : J25 → Head
  | .h0 v3 v4 v5 =>
    { fr := { id := 25, kind := .top, T := [(.int .u64 x.1), (.int .u64 x.2.1), .any, (.int .i64 x.2.2.2)] ++ List.replicate 7 .any ++ [(.int .u64 v3), (.int .u64 v4), (.int .i64 v5)] ++ List.replicate 51 .any, items := [.lp (subc [1, 1, 1, 0, 1, 0, 0] (bodyOf Tryd.f25)), .blk 0, .code (subc [1, 1, 1, 1] (bodyOf Tryd.f25))], D := [], base := 0 },
      stk := [],
      H := [] }
noncomputable def stop25 : FuncId → Nat → Nat → Option Cut
  | 25, 0, 0 => some { tmps := [0, 1, 3, 11, 12, 13], loops := [], dead := [] }
  | _, _, _ => none
noncomputable def fn25 (x : (Int × (Int × (Bool × Int)))) : (Int × (Bool × Bool)) := endVal (TC.dflt (.st (.int .u64) (.st .bool (.st1 .bool)))) (step25 x) (tree25 x)
def pre25 (x : (Int × (Int × (Bool × Int)))) : Prop := ∃ r, Ends (step25 x) r (tree25 x)
noncomputable def spec25 : Spec := { dom := (.st (.int .u64) (.st (.int .u64) (.st .bool (.st1 (.int .i64))))), cod := (.st (.int .u64) (.st .bool (.st1 .bool))), n := 3, pre := pre25, f := fn25 }
theorem run25 (W : Cfg) (Q : (Int × (Bool × Bool)) → Prop) (x : (Int × (Int × (Bool × Int)))) : run (env tab59 (fun _ _ => none)) stop25 (fun v _ => finQ 3 (.st (.int .u64) (.st .bool (.st1 .bool))) Q v) W 100000 (startFr 25 Tryd.f25 (bodyOf Tryd.f25) (argsOf (.st (.int .u64) (.st (.int .u64) (.st .bool (.st1 (.int .i64))))) x)) [] [] = (tree25 x).wp (kont W Q (head25 x)) := by kernel_rfl
theorem run25h0 (W : Cfg) (Q : (Int × (Bool × Bool)) → Prop) (x : (Int × (Int × (Bool × Int)))) (v3 : Int) (v4 : Int) (v5 : Int) : run (env tab59 (fun _ _ => none)) stop25 (fun v _ => finQ 3 (.st (.int .u64) (.st .bool (.st1 .bool))) Q v) W 100000 (head25 x (.h0 v3 v4 v5)).fr.enter (head25 x (.h0 v3 v4 v5)).stk (head25 x (.h0 v3 v4 v5)).H = (step25 x (.h0 v3 v4 v5)).wp (kont W Q (head25 x)) := by kernel_rfl
theorem runs25 (W : Cfg) (Q : (Int × (Bool × Bool)) → Prop) (x : (Int × (Int × (Bool × Int)))) : ∀ j : J25, run (env tab59 (fun _ _ => none)) stop25 (fun v _ => finQ 3 (.st (.int .u64) (.st .bool (.st1 .bool))) Q v) W 100000 (head25 x j).fr.enter (head25 x j).stk (head25 x j).H = (step25 x j).wp (kont W Q (head25 x))
  | .h0 v3 v4 v5 => run25h0 W Q x v3 v4 v5
theorem ok25 : SpecOk env0 25 spec25 := SpecOk.env rfl (fun _ _ h => h) (spec_of_trees (E := (env tab59 (fun _ _ => none))) (sp := spec25) (valid _ _) (fun f sp h => SpecOk.env rfl (fun _ _ h => h) (tab59_ok f sp h)) (fn := Tryd.f25) (c := (bodyOf Tryd.f25)) (by kernel_rfl) (by kernel_rfl) tree25 step25 head25 run25 runs25 (fun _ h => endVal_ends h))

noncomputable def tab25 : FuncId → Option Spec
  | 25 => some spec25
  | f => tab59 f
theorem tab25_ok : ∀ f sp, tab25 f = some sp → SpecOk env0 f sp := by
  intro f sp h
  unfold tab25 at h
  split at h
  · cases h; exact ok25
  · exact tab59_ok f sp h

/-! ### sundial/sundiallaw13.AluBack -/
noncomputable def tree7 (x : (Int × (Int × (Int × Int)))) : Tr Bool :=
  let y0 : (Int × Int) := (x.2.1, x.1)
  .need (pre21 y0) <|
  let y1 : (Int × Int) := x.2.2
  let y2 : (Int × Int) := (y1.1, x.1)
  .need (pre21 y2) <|
  let y3 : (Int × Int) := (y1.2, x.1)
  .need (pre21 y3) <|
  .need (pre22 x) <|
  let y4 : Int := (fn21 y3)
  .ite ((ine y4 0) == true) (
    let y5 : (Int × Bool) := (fn22 x).2
    let y6 : Bool := y5.2
    let y7 : Int := (fn21 y0)
    .ite (!(y6 == (ilt y7 y4))) (
      .ret false) (
      let y8 : Bool := (!y6)
      .ite y8 (
        let y9 : Int := (fn22 x).1
        let y10 : Bool := ((ieq y9 0) == true)
        .ite y10 (
          let y11 : Int := y5.1
          let y12 : Bool := ((ieq y11 0) == true)
          .ite y12 (
            .need (pre23 ()) <|
            .ret (fn23 ())) (
            .ret false)) (
          .ret false)) (
        let y13 : Int := (fn22 x).1
        let y14 : (Int × (Int × Int)) := (x.1, (y13, y4))
        .need (pre24 y14) <|
        let y15 : (Int × (Int × (Bool × (Bool × (Bool × (Bool × Bool)))))) := (fn24 y14)
        let y16 : Int := y5.1
        let y17 : (Int × (Int × (Bool × Int))) := (y15.1, (y16, (false, x.1)))
        .need (pre25 y17) <|
        let y18 : (Int × (Bool × Bool)) := (fn25 y17)
        let y19 : (Int × (Int × (Bool × Int))) := (y15.2.1, (0, (y18.2.1, x.1)))
        .need (pre25 y19) <|
        let y20 : Bool := ((ilt y16 y4) == true)
        .ite y20 (
          let y21 : Bool := ((ieq y18.1 (fn21 y2)) == true)
          .ite y21 (
            let y22 : (Int × (Bool × Bool)) := (fn25 y19)
            let y23 : Bool := ((ieq y22.1 y7) == true)
            .ite y23 (
              let y24 : Bool := ((!y22.2.1) == true)
              .ite y24 (
                let y25 : (Int × Int) := (y13, x.1)
                .need (pre21 y25) <|
                let y26 : Bool := ((ieq y13 (fn21 y25)) == true)
                .ite y26 (
                  .need (pre23 ()) <|
                  .ret (fn23 ())) (
                  .ret false)) (
                .ret false)) (
              .ret false)) (
            .ret false)) (
          .ret false)))) (
    let y27 : (Int × Bool) := (fn22 x).2
    let y28 : Bool := y27.2
    .ite (!(y28 == false)) (
      .ret false) (
      let y29 : Bool := (!y28)
      .ite y29 (
        let y30 : Int := (fn22 x).1
        let y31 : Bool := ((ieq y30 0) == true)
        .ite y31 (
          let y32 : Int := y27.1
          let y33 : Bool := ((ieq y32 0) == true)
          .ite y33 (
            .need (pre23 ()) <|
            .ret (fn23 ())) (
            .ret false)) (
          .ret false)) (
        let y34 : Int := (fn22 x).1
        let y35 : (Int × (Int × Int)) := (x.1, (y34, y4))
        .need (pre24 y35) <|
        let y36 : (Int × (Int × (Bool × (Bool × (Bool × (Bool × Bool)))))) := (fn24 y35)
        let y37 : Int := y27.1
        let y38 : (Int × (Int × (Bool × Int))) := (y36.1, (y37, (false, x.1)))
        .need (pre25 y38) <|
        let y39 : (Int × (Bool × Bool)) := (fn25 y38)
        let y40 : (Int × (Int × (Bool × Int))) := (y36.2.1, (0, (y39.2.1, x.1)))
        .need (pre25 y40) <|
        let y41 : Bool := ((ilt y37 y4) == true)
        .ite y41 (
          let y42 : Bool := ((ieq y39.1 (fn21 y2)) == true)
          .ite y42 (
            let y43 : (Int × (Bool × Bool)) := (fn25 y40)
            let y44 : Int := (fn21 y0)
            let y45 : Bool := ((ieq y43.1 y44) == true)
            .ite y45 (
              let y46 : Bool := ((!y43.2.1) == true)
              .ite y46 (
                let y47 : (Int × Int) := (y34, x.1)
                .need (pre21 y47) <|
                let y48 : Bool := ((ieq y34 (fn21 y47)) == true)
                .ite y48 (
                  .need (pre23 ()) <|
                  .ret (fn23 ())) (
                  .ret false)) (
                .ret false)) (
              .ret false)) (
            .ret false)) (
          .ret false))))
noncomputable def fn7 (x : (Int × (Int × (Int × Int)))) : Bool := (tree7 x).val
def pre7 (x : (Int × (Int × (Int × Int)))) : Prop := (tree7 x).ok
noncomputable def spec7 : Spec := { dom := (.st (.int .i64) (.st (.int .u64) (.st (.int .u64) (.st1 (.int .u64))))), cod := .bool, n := 1, pre := pre7, f := fn7 }
theorem run7 (W : Cfg) (Q : Bool → Prop) (x : (Int × (Int × (Int × Int)))) : run (env tab25 (fun _ _ => none)) (fun _ _ _ => none) (fun v _ => finQ 1 .bool Q v) W 100000 (startFr 7 Tryd.f7 (bodyOf Tryd.f7) (argsOf (.st (.int .i64) (.st (.int .u64) (.st (.int .u64) (.st1 (.int .u64))))) x)) [] [] = (tree7 x).wp Q := by kernel_rfl
theorem ok7 : SpecOk env0 7 spec7 := SpecOk.env rfl (fun _ _ h => h) (spec_of_tree (E := (env tab25 (fun _ _ => none))) (sp := spec7) (valid _ _) (fun f sp h => SpecOk.env rfl (fun _ _ h => h) (tab25_ok f sp h)) (fn := Tryd.f7) (c := (bodyOf Tryd.f7)) (by kernel_rfl) (by kernel_rfl) tree7 run7 (fun _ h => Tr.gives_val h))

noncomputable def tab7 : FuncId → Option Spec
  | 7 => some spec7
  | f => tab25 f
theorem tab7_ok : ∀ f sp, tab7 f = some sp → SpecOk env0 f sp := by
  intro f sp h
  unfold tab7 at h
  split at h
  · cases h; exact ok7
  · exact tab25_ok f sp h

/-! ### sundial/alu.Add -/
noncomputable def tree27 (x : (Int × (Int × (Int × Bool)))) : Tr (Int × (Bool × (Bool × (Bool × (Bool × Bool))))) :=
  let y0 : (Int × Bool) := x.2.2
  let y1 : (Int × (Int × (Bool × Int))) := (x.2.1, (y0.1, (y0.2, x.1)))
  .need (pre15 y1) <|
  let y2 : (Int × (Int × (Bool × Bool))) := (x.1, (fn15 y1))
  .need (pre56 y2) <|
  .ret (fn56 y2)
noncomputable def fn27 (x : (Int × (Int × (Int × Bool)))) : (Int × (Bool × (Bool × (Bool × (Bool × Bool))))) := (tree27 x).val
def pre27 (x : (Int × (Int × (Int × Bool)))) : Prop := (tree27 x).ok
noncomputable def spec27 : Spec := { dom := (.st (.int .i64) (.st (.int .u64) (.st (.int .u64) (.st1 .bool)))), cod := (.st (.int .u64) (.st1 (.st .bool (.st .bool (.st .bool (.st .bool (.st1 .bool))))))), n := 2, pre := pre27, f := fn27 }
theorem run27 (W : Cfg) (Q : (Int × (Bool × (Bool × (Bool × (Bool × Bool))))) → Prop) (x : (Int × (Int × (Int × Bool)))) : run (env tab7 (fun _ _ => none)) (fun _ _ _ => none) (fun v _ => finQ 2 (.st (.int .u64) (.st1 (.st .bool (.st .bool (.st .bool (.st .bool (.st1 .bool))))))) Q v) W 100000 (startFr 27 Tryd.f27 (bodyOf Tryd.f27) (argsOf (.st (.int .i64) (.st (.int .u64) (.st (.int .u64) (.st1 .bool)))) x)) [] [] = (tree27 x).wp Q := by kernel_rfl
theorem ok27 : SpecOk env0 27 spec27 := SpecOk.env rfl (fun _ _ h => h) (spec_of_tree (E := (env tab7 (fun _ _ => none))) (sp := spec27) (valid _ _) (fun f sp h => SpecOk.env rfl (fun _ _ h => h) (tab7_ok f sp h)) (fn := Tryd.f27) (c := (bodyOf Tryd.f27)) (by kernel_rfl) (by kernel_rfl) tree27 run27 (fun _ h => Tr.gives_val h))

noncomputable def tab27 : FuncId → Option Spec
  | 27 => some spec27
  | f => tab7 f
theorem tab27_ok : ∀ f sp, tab27 f = some sp → SpecOk env0 f sp := by
  intro f sp h
  unfold tab27 at h
  split at h
  · cases h; exact ok27
  · exact tab7_ok f sp h

/-! ### sundial/alu.Neg -/
noncomputable def tree28 (x : (Int × Int)) : Tr (Int × (Bool × (Bool × (Bool × (Bool × Bool))))) :=
  let y0 : (Int × (Int × (Int × Bool))) := (x.1, (0, (x.2, false)))
  .need (pre26 y0) <|
  .ret (fn26 y0)
noncomputable def fn28 (x : (Int × Int)) : (Int × (Bool × (Bool × (Bool × (Bool × Bool))))) := (tree28 x).val
def pre28 (x : (Int × Int)) : Prop := (tree28 x).ok
noncomputable def spec28 : Spec := { dom := (.st (.int .i64) (.st1 (.int .u64))), cod := (.st (.int .u64) (.st1 (.st .bool (.st .bool (.st .bool (.st .bool (.st1 .bool))))))), n := 2, pre := pre28, f := fn28 }
theorem run28 (W : Cfg) (Q : (Int × (Bool × (Bool × (Bool × (Bool × Bool))))) → Prop) (x : (Int × Int)) : run (env tab27 (fun _ _ => none)) (fun _ _ _ => none) (fun v _ => finQ 2 (.st (.int .u64) (.st1 (.st .bool (.st .bool (.st .bool (.st .bool (.st1 .bool))))))) Q v) W 100000 (startFr 28 Tryd.f28 (bodyOf Tryd.f28) (argsOf (.st (.int .i64) (.st1 (.int .u64))) x)) [] [] = (tree28 x).wp Q := by kernel_rfl
theorem ok28 : SpecOk env0 28 spec28 := SpecOk.env rfl (fun _ _ h => h) (spec_of_tree (E := (env tab27 (fun _ _ => none))) (sp := spec28) (valid _ _) (fun f sp h => SpecOk.env rfl (fun _ _ h => h) (tab27_ok f sp h)) (fn := Tryd.f28) (c := (bodyOf Tryd.f28)) (by kernel_rfl) (by kernel_rfl) tree28 run28 (fun _ h => Tr.gives_val h))

noncomputable def tab28 : FuncId → Option Spec
  | 28 => some spec28
  | f => tab27 f
theorem tab28_ok : ∀ f sp, tab28 f = some sp → SpecOk env0 f sp := by
  intro f sp h
  unfold tab28 at h
  split at h
  · cases h; exact ok28
  · exact tab27_ok f sp h

/-! ### sundial/sundialref01.Ext -/
noncomputable def tree29 (x : (Int × Int)) : Tr Int :=
  .need (pre21 x) <|
  let y0 : (Int × Int) := ((fn21 x), x.2)
  .need (pre59 y0) <|
  .ite (fn59 y0) (
    .need (pre53 x.2) <|
    .ret (ior .u64 (fn21 x) (inot .u64 (fn53 x.2)))) (
    .ret (fn21 x))
noncomputable def fn29 (x : (Int × Int)) : Int := (tree29 x).val
def pre29 (x : (Int × Int)) : Prop := (tree29 x).ok
noncomputable def spec29 : Spec := { dom := (.st (.int .u64) (.st1 (.int .i64))), cod := (.int .u64), n := 1, pre := pre29, f := fn29 }
theorem run29 (W : Cfg) (Q : Int → Prop) (x : (Int × Int)) : run (env tab28 (fun _ _ => none)) (fun _ _ _ => none) (fun v _ => finQ 1 (.int .u64) Q v) W 100000 (startFr 29 Tryd.f29 (bodyOf Tryd.f29) (argsOf (.st (.int .u64) (.st1 (.int .i64))) x)) [] [] = (tree29 x).wp Q := by kernel_rfl
theorem ok29 : SpecOk env0 29 spec29 := SpecOk.env rfl (fun _ _ h => h) (spec_of_tree (E := (env tab28 (fun _ _ => none))) (sp := spec29) (valid _ _) (fun f sp h => SpecOk.env rfl (fun _ _ h => h) (tab28_ok f sp h)) (fn := Tryd.f29) (c := (bodyOf Tryd.f29)) (by kernel_rfl) (by kernel_rfl) tree29 run29 (fun _ h => Tr.gives_val h))

noncomputable def tab29 : FuncId → Option Spec
  | 29 => some spec29
  | f => tab28 f
theorem tab29_ok : ∀ f sp, tab29 f = some sp → SpecOk env0 f sp := by
  intro f sp h
  unfold tab29 at h
  split at h
  · cases h; exact ok29
  · exact tab28_ok f sp h

/-! ### sundial/sundiallaw13.AluCompares -/
noncomputable def tree8 (x : (Int × (Int × Int))) : Tr Bool :=
  let y0 : Int := x.2.1
  let y1 : (Int × Int) := (y0, x.1)
  .need (pre21 y1) <|
  let y2 : Int := x.2.2
  let y3 : (Int × Int) := (y2, x.1)
  .need (pre21 y3) <|
  let y4 : (Int × Bool) := (y2, false)
  let y5 : (Int × (Int × (Int × Bool))) := (x.1, (y0, y4))
  .need (pre26 y5) <|
  .need (pre27 y5) <|
  let y6 : (Int × (Int × (Int × Bool))) := (x.1, ((fn27 y5).1, y4))
  .need (pre26 y6) <|
  let y7 : (Int × Int) := (x.1, y0)
  .need (pre28 y7) <|
  let y8 : (Int × (Bool × (Bool × (Bool × (Bool × Bool))))) := (fn28 y7)
  let y9 : (Int × (Int × (Int × Bool))) := (x.1, (y0, (y8.1, false)))
  .need (pre27 y9) <|
  .need (pre29 y1) <|
  .need (pre29 y3) <|
  let y10 : (Bool × (Bool × (Bool × (Bool × Bool)))) := (fn26 y5).2
  let y11 : Int := (fn21 y1)
  let y12 : Int := (fn21 y3)
  .ite ((y10.1 == (ilt y11 y12)) == true) (
    let y13 : (Bool × (Bool × (Bool × Bool))) := y10.2
    .ite ((y13.1 == (ieq y11 y12)) == true) (
      let y14 : (Bool × (Bool × Bool)) := y13.2
      .ite (((!(y14.1 == y14.2.1)) == (ilt (iconv .i64 (fn29 y1)) (iconv .i64 (fn29 y3)))) == true) (
        .ite ((ieq (fn26 y6).1 y11) == true) (
          .ite ((ieq (fn27 y9).1 0) == true) (
            .ite ((y8.2.1 == (ine y11 0)) == true) (
              .need (pre23 ()) <|
              .ret (fn23 ())) (
              .ret false)) (
            .ret false)) (
          .ret false)) (
        .ret false)) (
      .ret false)) (
    .ret false)
noncomputable def fn8 (x : (Int × (Int × Int))) : Bool := (tree8 x).val
def pre8 (x : (Int × (Int × Int))) : Prop := (tree8 x).ok
noncomputable def spec8 : Spec := { dom := (.st (.int .i64) (.st (.int .u64) (.st1 (.int .u64)))), cod := .bool, n := 1, pre := pre8, f := fn8 }
theorem run8 (W : Cfg) (Q : Bool → Prop) (x : (Int × (Int × Int))) : run (env tab29 (fun _ _ => none)) (fun _ _ _ => none) (fun v _ => finQ 1 .bool Q v) W 100000 (startFr 8 Tryd.f8 (bodyOf Tryd.f8) (argsOf (.st (.int .i64) (.st (.int .u64) (.st1 (.int .u64)))) x)) [] [] = (tree8 x).wp Q := by kernel_rfl
theorem ok8 : SpecOk env0 8 spec8 := SpecOk.env rfl (fun _ _ h => h) (spec_of_tree (E := (env tab29 (fun _ _ => none))) (sp := spec8) (valid _ _) (fun f sp h => SpecOk.env rfl (fun _ _ h => h) (tab29_ok f sp h)) (fn := Tryd.f8) (c := (bodyOf Tryd.f8)) (by kernel_rfl) (by kernel_rfl) tree8 run8 (fun _ h => Tr.gives_val h))

noncomputable def tab8 : FuncId → Option Spec
  | 8 => some spec8
  | f => tab29 f
theorem tab8_ok : ∀ f sp, tab8 f = some sp → SpecOk env0 f sp := by
  intro f sp h
  unfold tab8 at h
  split at h
  · cases h; exact ok8
  · exact tab29_ok f sp h

/-! ### sundial/sundiallaw13.AluShifts -/
inductive J9 where
  | h0 (v3 : Int) (v7 : Int) (v8 : Int) (v14 : (List Int))
noncomputable def tree9 (x : (Bool × (Int × (Int × (Int × (Bool × (Bool × (Bool × (Bool × Bool))))))))) : Tr (J9 ⊕ Bool) :=
  .ite x.1 (
    let y0 : (Int × (Int × (Bool × (Bool × (Bool × (Bool × Bool)))))) := x.2.2
    let y1 : Int := (iadd .i64 (iconv .i64 y0.1) (iconv .i64 y0.2.1))
    .ite (ile 64 y1) (
      .need (pre23 ()) <|
      .ret (.inr (fn23 ()))) (
      .need ((0 : Nat) < 5) <|
      .need ((1 : Nat) < 5) <|
      .need ((2 : Nat) < 5) <|
      .need ((3 : Nat) < 5) <|
      .need ((4 : Nat) < 5) <|
      let y2 : (List Int) := ((((((List.replicate 5 (0 : Int)).set 0 16).set 1 17).set 2 18).set 3 19).set 4 20)
      .ret (.inl (.h0 8 (5 : Int) 0 y2)))) (
    let y3 : (Int × (Int × (Bool × (Bool × (Bool × (Bool × Bool)))))) := x.2.2
    let y4 : Int := (iadd .i64 (iconv .i64 y3.1) (iconv .i64 y3.2.1))
    .ite (ile 32 y4) (
      .need (pre23 ()) <|
      .ret (.inr (fn23 ()))) (
      .need ((0 : Nat) < 5) <|
      .need ((1 : Nat) < 5) <|
      .need ((2 : Nat) < 5) <|
      .need ((3 : Nat) < 5) <|
      .need ((4 : Nat) < 5) <|
      let y5 : (List Int) := ((((((List.replicate 5 (0 : Int)).set 0 16).set 1 17).set 2 18).set 3 19).set 4 20)
      .ret (.inl (.h0 4 (5 : Int) 0 y5))))
noncomputable def step9 (x : (Bool × (Int × (Int × (Int × (Bool × (Bool × (Bool × (Bool × Bool))))))))) : J9 → Tr (J9 ⊕ Bool)
  | .h0 v3 v7 v8 v14 =>
    .ite (ilt v8 v7) (
      .need ((0 : Int) ≤ v8) <|
      .need (v8 < (5 : Int)) <|
      let y0 : Nat := (0 + (v8).toNat)
      .need ((y0 : Nat) < 5) <|
      let y1 : Int := (rdc (.int .u8) v14 y0)
      let y2 : Int := x.2.1
      let y3 : (Int × (Int × (Bool × (Bool × (Bool × (Bool × Bool)))))) := x.2.2
      let y4 : Int := y3.1
      let y5 : (Int × (Bool × (Bool × (Bool × (Bool × Bool))))) := y3.2
      let y6 : (Bool × (Bool × (Bool × (Bool × Bool)))) := y5.2
      let y7 : (Int × (Bool × (Bool × (Bool × (Bool × Bool))))) := (y4, y6)
      let y8 : (Int × (Int × (Int × (Bool × (Bool × (Bool × (Bool × Bool))))))) := (v3, (y2, y7))
      let y9 : (Int × (Int × (Int × (Int × (Bool × (Bool × (Bool × (Bool × Bool)))))))) := (y1, y8)
      .need (pre30 y9) <|
      let y10 : (Int × (Int × (Int × (Int × (Bool × (Bool × (Bool × (Bool × Bool)))))))) := (y1, (v3, ((fn30 y9).1, y5)))
      .need (pre30 y10) <|
      let y11 : Int := y5.1
      let y12 : (Int × (Int × (Int × (Int × (Bool × (Bool × (Bool × (Bool × Bool)))))))) := (y1, (v3, (y2, ((iadd .u8 y4 y11), y6))))
      .need (pre30 y12) <|
      let y13 : (Int × (Bool × (Bool × (Bool × (Bool × Bool))))) := (fn30 y10)
      let y14 : (Int × (Bool × (Bool × (Bool × (Bool × Bool))))) := (fn30 y12)
      .ite ((ine y13.1 y14.1) == false) (
        .ite ((ilt 0 y11) == true) (
          .ite ((ilt 0 y4) == true) (
            let y15 : (Bool × (Bool × (Bool × (Bool × Bool)))) := y13.2
            let y16 : (Bool × (Bool × (Bool × (Bool × Bool)))) := y14.2
            .ite ((!(y15.1 == y16.1)) == false) (
              let y17 : (Bool × (Bool × (Bool × Bool))) := y15.2
              let y18 : (Bool × (Bool × (Bool × Bool))) := y16.2
              .ite ((!(y17.1 == y18.1)) == false) (
                .ite (!(y17.2.1 == y18.2.1)) (
                  .ret (.inr false)) (
                  let y19 : Int := (iadd .i64 v8 1)
                  .ret (.inl (.h0 v3 v7 y19 v14)))) (
                .ret (.inr false))) (
              .ret (.inr false))) (
            let y20 : Int := (iadd .i64 v8 1)
            .ret (.inl (.h0 v3 v7 y20 v14)))) (
          let y21 : Int := (iadd .i64 v8 1)
          .ret (.inl (.h0 v3 v7 y21 v14)))) (
        .ret (.inr false))) (
      let y22 : Int := x.2.1
      let y23 : (Int × (Int × (Bool × (Bool × (Bool × (Bool × Bool)))))) := x.2.2
      let y24 : Int := y23.1
      let y25 : (Int × (Bool × (Bool × (Bool × (Bool × Bool))))) := y23.2
      let y26 : (Bool × (Bool × (Bool × (Bool × Bool)))) := y25.2
      let y27 : (Int × (Bool × (Bool × (Bool × (Bool × Bool))))) := (y24, y26)
      let y28 : (Int × (Int × (Int × (Bool × (Bool × (Bool × (Bool × Bool))))))) := (v3, (y22, y27))
      let y29 : (Int × (Int × (Int × (Int × (Bool × (Bool × (Bool × (Bool × Bool)))))))) := (16, y28)
      .need (pre30 y29) <|
      let y30 : (Int × (Int × (Int × (Int × (Bool × (Bool × (Bool × (Bool × Bool)))))))) := (17, y28)
      .need (pre30 y30) <|
      let y31 : Int := (iconv .u64 y24)
      .need ((0 : Int) ≤ y31) <|
      let y32 : (Int × Int) := (y22, (ishl .u64 1 y31))
      let y33 : (Int × (Int × Int)) := (v3, y32)
      .need (pre24 y33) <|
      .need ((0 : Int) ≤ y31) <|
      let y34 : (Int × (Int × (Int × Int))) := (v3, (0, y32))
      .need (pre22 y34) <|
      let y35 : (Int × (Int × (Int × (Int × (Bool × (Bool × (Bool × (Bool × Bool)))))))) := (19, y28)
      .need (pre30 y35) <|
      let y36 : (Int × (Int × (Int × (Int × (Bool × (Bool × (Bool × (Bool × Bool)))))))) := (20, (v3, ((fn30 y35).1, y27)))
      .need (pre30 y36) <|
      .ite ((ieq (fn30 y29).1 (fn24 y33).1) == true) (
        .ite ((ieq (fn30 y30).1 (fn22 y34).1) == true) (
          let y37 : (Int × Int) := (y22, v3)
          .need (pre21 y37) <|
          .ite ((ieq (fn30 y36).1 (fn21 y37)) == true) (
            .need (pre23 ()) <|
            .ret (.inr (fn23 ()))) (
            .ret (.inr false))) (
          .ret (.inr false))) (
        .ret (.inr false)))
noncomputable def head9 (x : (Bool × (Int × (Int × (Int × (Bool × (Bool × (Bool × (Bool × Bool))))))))) : J9 → Head
  | .h0 v3 v7 v8 v14 =>
    { fr := { id := 9, kind := .top, T := [.any, (.int .u64 x.2.1), (.int .u8 x.2.2.1), (.int .u8 x.2.2.2.1)] ++ List.replicate 5 .any ++ [(.ptr 0 []), .any, (.int .i64 v3)] ++ List.replicate 32 .any ++ [(.osl 1 [] 1 0 5 (some 5)), (.int .i64 v7), (.int .i64 v8)] ++ List.replicate 135 .any, items := [.lp (subc [1, 1, 1, 1, 0, 1, 0, 0] (bodyOf Tryd.f9)), .blk 0, .code (subc [1, 1, 1, 1, 1] (bodyOf Tryd.f9))], D := [], base := 0 },
      stk := [],
      H := [.cell true 40 (.agg [1, 1, 1, 1, 1] [(.bool x.2.2.2.2.1), (.bool x.2.2.2.2.2.1), (.bool x.2.2.2.2.2.2.1), (.bool x.2.2.2.2.2.2.2.1), (.bool x.2.2.2.2.2.2.2.2)]), .cell true 5 (.arr 5 (.int .u8) v14)] }
noncomputable def stop9 : FuncId → Nat → Nat → Option Cut
  | 9, 0, 0 => some { tmps := [1, 2, 3, 9, 11, 44, 45, 46], loops := [], dead := [] }
  | _, _, _ => none
noncomputable def fn9 (x : (Bool × (Int × (Int × (Int × (Bool × (Bool × (Bool × (Bool × Bool))))))))) : Bool := endVal (TC.dflt .bool) (step9 x) (tree9 x)
def pre9 (x : (Bool × (Int × (Int × (Int × (Bool × (Bool × (Bool × (Bool × Bool))))))))) : Prop := ∃ r, Ends (step9 x) r (tree9 x)
noncomputable def spec9 : Spec := { dom := (.st .bool (.st (.int .u64) (.st (.int .u8) (.st (.int .u8) (.st1 (.st .bool (.st .bool (.st .bool (.st .bool (.st1 .bool)))))))))), cod := .bool, n := 1, pre := pre9, f := fn9 }
theorem run9 (W : Cfg) (Q : Bool → Prop) (x : (Bool × (Int × (Int × (Int × (Bool × (Bool × (Bool × (Bool × Bool))))))))) : run (env tab8 (fun _ _ => none)) stop9 (fun v _ => finQ 1 .bool Q v) W 100000 (startFr 9 Tryd.f9 (bodyOf Tryd.f9) (argsOf (.st .bool (.st (.int .u64) (.st (.int .u8) (.st (.int .u8) (.st1 (.st .bool (.st .bool (.st .bool (.st .bool (.st1 .bool)))))))))) x)) [] [] = (tree9 x).wp (kont W Q (head9 x)) := by kernel_rfl
theorem run9h0 (W : Cfg) (Q : Bool → Prop) (x : (Bool × (Int × (Int × (Int × (Bool × (Bool × (Bool × (Bool × Bool))))))))) (v3 : Int) (v7 : Int) (v8 : Int) (v14 : (List Int)) : run (env tab8 (fun _ _ => none)) stop9 (fun v _ => finQ 1 .bool Q v) W 100000 (head9 x (.h0 v3 v7 v8 v14)).fr.enter (head9 x (.h0 v3 v7 v8 v14)).stk (head9 x (.h0 v3 v7 v8 v14)).H = (step9 x (.h0 v3 v7 v8 v14)).wp (kont W Q (head9 x)) := by kernel_rfl
theorem runs9 (W : Cfg) (Q : Bool → Prop) (x : (Bool × (Int × (Int × (Int × (Bool × (Bool × (Bool × (Bool × Bool))))))))) : ∀ j : J9, run (env tab8 (fun _ _ => none)) stop9 (fun v _ => finQ 1 .bool Q v) W 100000 (head9 x j).fr.enter (head9 x j).stk (head9 x j).H = (step9 x j).wp (kont W Q (head9 x))
  | .h0 v3 v7 v8 v14 => run9h0 W Q x v3 v7 v8 v14
theorem ok9 : SpecOk env0 9 spec9 := SpecOk.env rfl (fun _ _ h => h) (spec_of_trees (E := (env tab8 (fun _ _ => none))) (sp := spec9) (valid _ _) (fun f sp h => SpecOk.env rfl (fun _ _ h => h) (tab8_ok f sp h)) (fn := Tryd.f9) (c := (bodyOf Tryd.f9)) (by kernel_rfl) (by kernel_rfl) tree9 step9 head9 run9 runs9 (fun _ h => endVal_ends h))

noncomputable def tab9 : FuncId → Option Spec
  | 9 => some spec9
  | f => tab8 f
theorem tab9_ok : ∀ f sp, tab9 f = some sp → SpecOk env0 f sp := by
  intro f sp h
  unfold tab9 at h
  split at h
  · cases h; exact ok9
  · exact tab8_ok f sp h

/-! ### sundial/alu.Imul -/
noncomputable def tree31 (x : (Int × (Int × Int))) : Tr (Int × (Bool × (Bool × (Bool × (Bool × Bool))))) :=
  let y0 : (Int × Int) := (x.2.1, x.1)
  .need (pre13 y0) <|
  let y1 : (Int × Int) := (x.2.2, x.1)
  .need (pre13 y1) <|
  let y2 : Int := (fn13 y0)
  let y3 : Int := (fn13 y1)
  let y4 : (Int × Int) := (y2, y3)
  .need (pre55 y4) <|
  .ite (ilt (iconv .i64 y2) 0) (
    let y5 : Bool := (ilt (iconv .i64 y3) 0)
    .ite y5 (
      let y6 : (Int × Int) := (fn55 y4)
      let y7 : Int := y6.2
      let y8 : (Int × Int) := (y7, x.1)
      .need (pre13 y8) <|
      let y9 : Bool := ((ine (fn13 y8) y7) == false)
      .ite y9 (
        .need ((0 : Int) ≤ 63) <|
        .need (pre14 y8) <|
        let y10 : Int := (fn14 y8)
        let y11 : Int := y6.1
        let y12 : Int := (isub .u64 y11 y3)
        let y13 : Int := (iconv .u64 (ishr .i64 (iconv .i64 y7) 63))
        let y14 : Bool := (ine (isub .u64 y12 y2) y13)
        let y15 : (Int × (Int × (Bool × Bool))) := (x.1, (y10, (y14, y14)))
        .need (pre56 y15) <|
        .ret (fn56 y15)) (
        .need (pre14 y8) <|
        let y16 : Int := (fn14 y8)
        let y17 : (Int × (Int × (Bool × Bool))) := (x.1, (y16, (true, true)))
        .need (pre56 y17) <|
        let y18 : (Int × (Bool × (Bool × (Bool × (Bool × Bool))))) := (fn56 y17)
        .ret y18)) (
      let y19 : (Int × Int) := (fn55 y4)
      let y20 : Int := y19.2
      let y21 : (Int × Int) := (y20, x.1)
      .need (pre13 y21) <|
      let y22 : Bool := ((ine (fn13 y21) y20) == false)
      .ite y22 (
        .need ((0 : Int) ≤ 63) <|
        .need (pre14 y21) <|
        let y23 : Int := (fn14 y21)
        let y24 : Int := y19.1
        let y25 : Int := (isub .u64 y24 y3)
        let y26 : Int := (iconv .u64 (ishr .i64 (iconv .i64 y20) 63))
        let y27 : Bool := (ine y25 y26)
        let y28 : (Int × (Int × (Bool × Bool))) := (x.1, (y23, (y27, y27)))
        .need (pre56 y28) <|
        .ret (fn56 y28)) (
        .need (pre14 y21) <|
        let y29 : Int := (fn14 y21)
        let y30 : (Int × (Int × (Bool × Bool))) := (x.1, (y29, (true, true)))
        .need (pre56 y30) <|
        let y31 : (Int × (Bool × (Bool × (Bool × (Bool × Bool))))) := (fn56 y30)
        .ret y31))) (
    let y32 : Bool := (ilt (iconv .i64 y3) 0)
    .ite y32 (
      let y33 : (Int × Int) := (fn55 y4)
      let y34 : Int := y33.2
      let y35 : (Int × Int) := (y34, x.1)
      .need (pre13 y35) <|
      let y36 : Bool := ((ine (fn13 y35) y34) == false)
      .ite y36 (
        .need ((0 : Int) ≤ 63) <|
        .need (pre14 y35) <|
        let y37 : Int := (fn14 y35)
        let y38 : Int := y33.1
        let y39 : Int := (iconv .u64 (ishr .i64 (iconv .i64 y34) 63))
        let y40 : Bool := (ine (isub .u64 y38 y2) y39)
        let y41 : (Int × (Int × (Bool × Bool))) := (x.1, (y37, (y40, y40)))
        .need (pre56 y41) <|
        .ret (fn56 y41)) (
        .need (pre14 y35) <|
        let y42 : Int := (fn14 y35)
        let y43 : (Int × (Int × (Bool × Bool))) := (x.1, (y42, (true, true)))
        .need (pre56 y43) <|
        let y44 : (Int × (Bool × (Bool × (Bool × (Bool × Bool))))) := (fn56 y43)
        .ret y44)) (
      let y45 : (Int × Int) := (fn55 y4)
      let y46 : Int := y45.2
      let y47 : (Int × Int) := (y46, x.1)
      .need (pre13 y47) <|
      let y48 : Bool := ((ine (fn13 y47) y46) == false)
      .ite y48 (
        .need ((0 : Int) ≤ 63) <|
        .need (pre14 y47) <|
        let y49 : Int := (fn14 y47)
        let y50 : Int := y45.1
        let y51 : Int := (iconv .u64 (ishr .i64 (iconv .i64 y46) 63))
        let y52 : Bool := (ine y50 y51)
        let y53 : (Int × (Int × (Bool × Bool))) := (x.1, (y49, (y52, y52)))
        .need (pre56 y53) <|
        .ret (fn56 y53)) (
        .need (pre14 y47) <|
        let y54 : Int := (fn14 y47)
        let y55 : (Int × (Int × (Bool × Bool))) := (x.1, (y54, (true, true)))
        .need (pre56 y55) <|
        let y56 : (Int × (Bool × (Bool × (Bool × (Bool × Bool))))) := (fn56 y55)
        .ret y56)))
noncomputable def fn31 (x : (Int × (Int × Int))) : (Int × (Bool × (Bool × (Bool × (Bool × Bool))))) := (tree31 x).val
def pre31 (x : (Int × (Int × Int))) : Prop := (tree31 x).ok
noncomputable def spec31 : Spec := { dom := (.st (.int .i64) (.st (.int .u64) (.st1 (.int .u64)))), cod := (.st (.int .u64) (.st1 (.st .bool (.st .bool (.st .bool (.st .bool (.st1 .bool))))))), n := 2, pre := pre31, f := fn31 }
theorem run31 (W : Cfg) (Q : (Int × (Bool × (Bool × (Bool × (Bool × Bool))))) → Prop) (x : (Int × (Int × Int))) : run (env tab9 (fun _ _ => none)) (fun _ _ _ => none) (fun v _ => finQ 2 (.st (.int .u64) (.st1 (.st .bool (.st .bool (.st .bool (.st .bool (.st1 .bool))))))) Q v) W 100000 (startFr 31 Tryd.f31 (bodyOf Tryd.f31) (argsOf (.st (.int .i64) (.st (.int .u64) (.st1 (.int .u64)))) x)) [] [] = (tree31 x).wp Q := by kernel_rfl
theorem ok31 : SpecOk env0 31 spec31 := SpecOk.env rfl (fun _ _ h => h) (spec_of_tree (E := (env tab9 (fun _ _ => none))) (sp := spec31) (valid _ _) (fun f sp h => SpecOk.env rfl (fun _ _ h => h) (tab9_ok f sp h)) (fn := Tryd.f31) (c := (bodyOf Tryd.f31)) (by kernel_rfl) (by kernel_rfl) tree31 run31 (fun _ h => Tr.gives_val h))

noncomputable def tab31 : FuncId → Option Spec
  | 31 => some spec31
  | f => tab9 f
theorem tab31_ok : ∀ f sp, tab31 f = some sp → SpecOk env0 f sp := by
  intro f sp h
  unfold tab31 at h
  split at h
  · cases h; exact ok31
  · exact tab9_ok f sp h

/-! ### sundial/sundiallaw13.AluSigned -/
noncomputable def tree10 (x : (Int × (Int × Int))) : Tr Bool :=
  .ite ((ilt x.1 1) == false) (
    .ite (ilt 4 x.1) (
      .need (pre23 ()) <|
      .ret (fn23 ())) (
      .need (pre31 x) <|
      .need (pre24 x) <|
      let y0 : Int := x.2.1
      let y1 : (Int × Int) := (y0, x.1)
      .need (pre29 y1) <|
      let y2 : Int := x.2.2
      let y3 : (Int × Int) := (y2, x.1)
      .need (pre29 y3) <|
      .need (pre21 y1) <|
      .need (pre21 y3) <|
      let y4 : (Int × Int) := (x.1, y0)
      .need (pre28 y4) <|
      let y5 : (Int × (Int × Int)) := (x.1, ((fn28 y4).1, y2))
      .need (pre31 y5) <|
      let y6 : Int := (fn31 x).1
      let y7 : (Int × Int) := (x.1, y6)
      .need (pre28 y7) <|
      let y8 : Int := (fn24 x).1
      .ite ((ieq y6 y8) == true) (
        let y9 : (Int × Int) := (y6, x.1)
        .need (pre29 y9) <|
        let y10 : (Bool × (Bool × (Bool × (Bool × Bool)))) := (fn31 x).2
        let y11 : Bool := y10.1
        .ite (((ieq (iconv .i64 (fn29 y9)) (imul .i64 (iconv .i64 (fn29 y1)) (iconv .i64 (fn29 y3)))) == (!y11)) == true) (
          .ite ((y10.2.2.2.1 == y11) == true) (
            let y12 : Int := (iconv .u64 (imul .i64 8 x.1))
            .need ((0 : Int) ≤ y12) <|
            let y13 : (Int × (Bool × (Bool × (Bool × (Bool × Bool))))) := (fn24 x).2
            let y14 : Int := y13.1
            .ite ((ieq (ior .u64 y8 (ishl .u64 y14 y12)) (imul .u64 (fn21 y1) (fn21 y3))) == true) (
              .ite ((y13.2.1 == (ine y14 0)) == true) (
                .ite ((ieq (fn31 y5).1 (fn28 y7).1) == true) (
                  .need (pre23 ()) <|
                  .ret (fn23 ())) (
                  .ret false)) (
                .ret false)) (
              .ret false)) (
            .ret false)) (
          .ret false)) (
        .ret false))) (
    .need (pre23 ()) <|
    .ret (fn23 ()))
noncomputable def fn10 (x : (Int × (Int × Int))) : Bool := (tree10 x).val
def pre10 (x : (Int × (Int × Int))) : Prop := (tree10 x).ok
noncomputable def spec10 : Spec := { dom := (.st (.int .i64) (.st (.int .u64) (.st1 (.int .u64)))), cod := .bool, n := 1, pre := pre10, f := fn10 }
theorem run10 (W : Cfg) (Q : Bool → Prop) (x : (Int × (Int × Int))) : run (env tab31 (fun _ _ => none)) (fun _ _ _ => none) (fun v _ => finQ 1 .bool Q v) W 100000 (startFr 10 Tryd.f10 (bodyOf Tryd.f10) (argsOf (.st (.int .i64) (.st (.int .u64) (.st1 (.int .u64)))) x)) [] [] = (tree10 x).wp Q := by kernel_rfl
theorem ok10 : SpecOk env0 10 spec10 := SpecOk.env rfl (fun _ _ h => h) (spec_of_tree (E := (env tab31 (fun _ _ => none))) (sp := spec10) (valid _ _) (fun f sp h => SpecOk.env rfl (fun _ _ h => h) (tab31_ok f sp h)) (fn := Tryd.f10) (c := (bodyOf Tryd.f10)) (by kernel_rfl) (by kernel_rfl) tree10 run10 (fun _ h => Tr.gives_val h))

noncomputable def tab10 : FuncId → Option Spec
  | 10 => some spec10
  | f => tab31 f
theorem tab10_ok : ∀ f sp, tab10 f = some sp → SpecOk env0 f sp := by
  intro f sp h
  unfold tab10 at h
  split at h
  · cases h; exact ok10
  · exact tab31_ok f sp h

/-! ### sundial/sundialref01.Parity -/
inductive J62 where
  | h0 (v1 : Int) (v2 : Int)
noncomputable def tree62 (_x : Int) : Tr (J62 ⊕ Bool) :=
  .ret (.inl (.h0 0 0))
noncomputable def step62 (x : Int) : J62 → Tr (J62 ⊕ Bool)
  | .h0 v1 v2 =>
    .ite (ilt v2 8) (
      .need ((0 : Int) ≤ (iconv .u64 v2)) <|
      .ret (.inl (.h0 (iadd .i64 v1 (iconv .i64 (iand .u64 (ishr .u64 x (iconv .u64 v2)) 1))) (iadd .i64 v2 1)))) (
      .need ((2 : Int) ≠ 0) <|
      .ret (.inr (ieq (irem .i64 v1 2) 0)))
noncomputable def head62 (x : Int) : J62 → Head
  | .h0 v1 v2 =>
    { fr := { id := 62, kind := .top, T := [(.int .u64 x), .any, .any, (.int .i64 v1), (.int .i64 v2)] ++ List.replicate 15 .any, items := [.lp (subc [1, 1, 0, 1, 0, 0] (bodyOf Tryd.f62)), .blk 0, .code (subc [1, 1, 1] (bodyOf Tryd.f62))], D := [], base := 0 },
      stk := [],
      H := [] }
noncomputable def stop62 : FuncId → Nat → Nat → Option Cut
  | 62, 0, 0 => some { tmps := [0, 3, 4], loops := [], dead := [] }
  | _, _, _ => none
noncomputable def fn62 (x : Int) : Bool := endVal (TC.dflt .bool) (step62 x) (tree62 x)
def pre62 (x : Int) : Prop := ∃ r, Ends (step62 x) r (tree62 x)
noncomputable def spec62 : Spec := { dom := (.st1 (.int .u64)), cod := .bool, n := 1, pre := pre62, f := fn62 }
theorem run62 (W : Cfg) (Q : Bool → Prop) (x : Int) : run (env tab10 (fun _ _ => none)) stop62 (fun v _ => finQ 1 .bool Q v) W 100000 (startFr 62 Tryd.f62 (bodyOf Tryd.f62) (argsOf (.st1 (.int .u64)) x)) [] [] = (tree62 x).wp (kont W Q (head62 x)) := by kernel_rfl
theorem run62h0 (W : Cfg) (Q : Bool → Prop) (x : Int) (v1 : Int) (v2 : Int) : run (env tab10 (fun _ _ => none)) stop62 (fun v _ => finQ 1 .bool Q v) W 100000 (head62 x (.h0 v1 v2)).fr.enter (head62 x (.h0 v1 v2)).stk (head62 x (.h0 v1 v2)).H = (step62 x (.h0 v1 v2)).wp (kont W Q (head62 x)) := by kernel_rfl
theorem runs62 (W : Cfg) (Q : Bool → Prop) (x : Int) : ∀ j : J62, run (env tab10 (fun _ _ => none)) stop62 (fun v _ => finQ 1 .bool Q v) W 100000 (head62 x j).fr.enter (head62 x j).stk (head62 x j).H = (step62 x j).wp (kont W Q (head62 x))
  | .h0 v1 v2 => run62h0 W Q x v1 v2
theorem ok62 : SpecOk env0 62 spec62 := SpecOk.env rfl (fun _ _ h => h) (spec_of_trees (E := (env tab10 (fun _ _ => none))) (sp := spec62) (valid _ _) (fun f sp h => SpecOk.env rfl (fun _ _ h => h) (tab10_ok f sp h)) (fn := Tryd.f62) (c := (bodyOf Tryd.f62)) (by kernel_rfl) (by kernel_rfl) tree62 step62 head62 run62 runs62 (fun _ h => endVal_ends h))

noncomputable def tab62 : FuncId → Option Spec
  | 62 => some spec62
  | f => tab10 f
theorem tab62_ok : ∀ f sp, tab62 f = some sp → SpecOk env0 f sp := by
  intro f sp h
  unfold tab62 at h
  split at h
  · cases h; exact ok62
  · exact tab10_ok f sp h

/-! ### sundial/sundialref13.Logic -/
noncomputable def tree35 (x : (Int × Int)) : Tr (Bool × (Bool × (Bool × (Bool × Bool)))) :=
  let y0 : (Int × Int) := (x.2, x.1)
  .need (pre21 y0) <|
  .need (pre59 y0) <|
  .need (pre62 x.2) <|
  .ret (false, ((ieq (fn21 y0) 0), ((fn59 y0), (false, (fn62 x.2)))))
noncomputable def fn35 (x : (Int × Int)) : (Bool × (Bool × (Bool × (Bool × Bool)))) := (tree35 x).val
def pre35 (x : (Int × Int)) : Prop := (tree35 x).ok
noncomputable def spec35 : Spec := { dom := (.st (.int .i64) (.st1 (.int .u64))), cod := (.st .bool (.st .bool (.st .bool (.st .bool (.st1 .bool))))), n := 1, pre := pre35, f := fn35 }
theorem run35 (W : Cfg) (Q : (Bool × (Bool × (Bool × (Bool × Bool)))) → Prop) (x : (Int × Int)) : run (env tab62 (fun _ _ => none)) (fun _ _ _ => none) (fun v _ => finQ 1 (.st .bool (.st .bool (.st .bool (.st .bool (.st1 .bool))))) Q v) W 100000 (startFr 35 Tryd.f35 (bodyOf Tryd.f35) (argsOf (.st (.int .i64) (.st1 (.int .u64))) x)) [] [] = (tree35 x).wp Q := by kernel_rfl
theorem ok35 : SpecOk env0 35 spec35 := SpecOk.env rfl (fun _ _ h => h) (spec_of_tree (E := (env tab62 (fun _ _ => none))) (sp := spec35) (valid _ _) (fun f sp h => SpecOk.env rfl (fun _ _ h => h) (tab62_ok f sp h)) (fn := Tryd.f35) (c := (bodyOf Tryd.f35)) (by kernel_rfl) (by kernel_rfl) tree35 run35 (fun _ h => Tr.gives_val h))

noncomputable def tab35 : FuncId → Option Spec
  | 35 => some spec35
  | f => tab62 f
theorem tab35_ok : ∀ f sp, tab35 f = some sp → SpecOk env0 f sp := by
  intro f sp h
  unfold tab35 at h
  split at h
  · cases h; exact ok35
  · exact tab62_ok f sp h

/-! ### sundial/sundialref13.Add -/
noncomputable def tree32 (x : (Int × (Int × (Int × Bool)))) : Tr (Int × (Bool × (Bool × (Bool × (Bool × Bool))))) :=
  let y0 : (Int × Bool) := x.2.2
  let y1 : (Int × (Int × (Bool × Int))) := (x.2.1, (y0.1, (y0.2, x.1)))
  .need (pre25 y1) <|
  let y2 : (Int × (Bool × Bool)) := (fn25 y1)
  let y3 : Int := y2.1
  let y4 : (Int × Int) := (x.1, y3)
  .need (pre35 y4) <|
  let y5 : (Bool × Bool) := y2.2
  let y6 : (Bool × (Bool × (Bool × Bool))) := (fn35 y4).2
  let y7 : (Bool × (Bool × Bool)) := y6.2
  .ret (y3, (y5.1, (y6.1, (y7.1, (y5.2, y7.2.2)))))
noncomputable def fn32 (x : (Int × (Int × (Int × Bool)))) : (Int × (Bool × (Bool × (Bool × (Bool × Bool))))) := (tree32 x).val
def pre32 (x : (Int × (Int × (Int × Bool)))) : Prop := (tree32 x).ok
noncomputable def spec32 : Spec := { dom := (.st (.int .i64) (.st (.int .u64) (.st (.int .u64) (.st1 .bool)))), cod := (.st (.int .u64) (.st1 (.st .bool (.st .bool (.st .bool (.st .bool (.st1 .bool))))))), n := 2, pre := pre32, f := fn32 }
theorem run32 (W : Cfg) (Q : (Int × (Bool × (Bool × (Bool × (Bool × Bool))))) → Prop) (x : (Int × (Int × (Int × Bool)))) : run (env tab35 (fun _ _ => none)) (fun _ _ _ => none) (fun v _ => finQ 2 (.st (.int .u64) (.st1 (.st .bool (.st .bool (.st .bool (.st .bool (.st1 .bool))))))) Q v) W 100000 (startFr 32 Tryd.f32 (bodyOf Tryd.f32) (argsOf (.st (.int .i64) (.st (.int .u64) (.st (.int .u64) (.st1 .bool)))) x)) [] [] = (tree32 x).wp Q := by kernel_rfl
theorem ok32 : SpecOk env0 32 spec32 := SpecOk.env rfl (fun _ _ h => h) (spec_of_tree (E := (env tab35 (fun _ _ => none))) (sp := spec32) (valid _ _) (fun f sp h => SpecOk.env rfl (fun _ _ h => h) (tab35_ok f sp h)) (fn := Tryd.f32) (c := (bodyOf Tryd.f32)) (by kernel_rfl) (by kernel_rfl) tree32 run32 (fun _ h => Tr.gives_val h))

noncomputable def tab32 : FuncId → Option Spec
  | 32 => some spec32
  | f => tab35 f
theorem tab32_ok : ∀ f sp, tab32 f = some sp → SpecOk env0 f sp := by
  intro f sp h
  unfold tab32 at h
  split at h
  · cases h; exact ok32
  · exact tab35_ok f sp h

/-! ### sundial/sundialref01.Sub -/
inductive J61 where
  | h0 (v3 : Int) (v4 : Int) (v5 : Int)
noncomputable def tree61 (x : (Int × (Int × (Bool × Int)))) : Tr (J61 ⊕ (Int × (Bool × Bool))) :=
  let y0 : Bool := x.2.2.1
  .need (pre57 y0) <|
  .ret (.inl (.h0 (iconv .i64 (fn57 y0)) 0 0))
noncomputable def step61 (x : (Int × (Int × (Bool × Int)))) : J61 → Tr (J61 ⊕ (Int × (Bool × Bool)))
  | .h0 v3 v4 v5 =>
    let y0 : Int := x.2.2.2
    .need (pre58 y0) <|
    .ite (ilt v5 (imul .i64 8 (fn58 y0))) (
      .need ((0 : Int) ≤ (iconv .u64 v5)) <|
      .need ((0 : Int) ≤ (iconv .u64 v5)) <|
      let y1 : Int := x.2.1
      let y2 : Int := (isub .i64 (isub .i64 (iconv .i64 (iand .u64 (ishr .u64 x.1 (iconv .u64 v5)) 1)) (iconv .i64 (iand .u64 (ishr .u64 y1 (iconv .u64 v5)) 1))) v3)
      .ite (ilt y2 0) (
        .need ((0 : Int) ≤ (iconv .u64 v5)) <|
        let y3 : Int := (iadd .i64 v5 1)
        .ret (.inl (.h0 1 (ior .u64 v4 (ishl .u64 (iconv .u64 (iadd .i64 y2 2)) (iconv .u64 v5))) y3))) (
        .need ((0 : Int) ≤ (iconv .u64 v5)) <|
        let y4 : Int := (iadd .i64 v5 1)
        .ret (.inl (.h0 0 (ior .u64 v4 (ishl .u64 (iconv .u64 y2) (iconv .u64 v5))) y4)))) (
      let y5 : (Int × Int) := (x.1, y0)
      .need (pre59 y5) <|
      let y6 : Int := x.2.1
      let y7 : (Int × Int) := (y6, y0)
      .need (pre59 y7) <|
      let y8 : Bool := (fn59 y5)
      .ite ((!(y8 == (fn59 y7))) == true) (
        let y9 : (Int × Int) := (v4, y0)
        .need (pre59 y9) <|
        .need (pre59 y5) <|
        let y10 : Bool := (ieq v3 1)
        .ret (.inr (v4, (y10, (!((fn59 y9) == y8)))))) (
        let y11 : Bool := (ieq v3 1)
        .ret (.inr (v4, (y11, false)))))
noncomputable def head61 (x : (Int × (Int × (Bool × Int)))) : J61 → Head
  | .h0 v3 v4 v5 =>
    { fr := { id := 61, kind := .top, T := [(.int .u64 x.1), (.int .u64 x.2.1), .any, (.int .i64 x.2.2.2)] ++ List.replicate 7 .any ++ [(.int .i64 v3), (.int .u64 v4), (.int .i64 v5)] ++ List.replicate 56 .any, items := [.lp (subc [1, 1, 1, 0, 1, 0, 0] (bodyOf Tryd.f61)), .blk 0, .code (subc [1, 1, 1, 1] (bodyOf Tryd.f61))], D := [], base := 0 },
      stk := [],
      H := [] }
noncomputable def stop61 : FuncId → Nat → Nat → Option Cut
  | 61, 0, 0 => some { tmps := [0, 1, 3, 11, 12, 13], loops := [], dead := [] }
  | _, _, _ => none
noncomputable def fn61 (x : (Int × (Int × (Bool × Int)))) : (Int × (Bool × Bool)) := endVal (TC.dflt (.st (.int .u64) (.st .bool (.st1 .bool)))) (step61 x) (tree61 x)
def pre61 (x : (Int × (Int × (Bool × Int)))) : Prop := ∃ r, Ends (step61 x) r (tree61 x)
noncomputable def spec61 : Spec := { dom := (.st (.int .u64) (.st (.int .u64) (.st .bool (.st1 (.int .i64))))), cod := (.st (.int .u64) (.st .bool (.st1 .bool))), n := 3, pre := pre61, f := fn61 }
theorem run61 (W : Cfg) (Q : (Int × (Bool × Bool)) → Prop) (x : (Int × (Int × (Bool × Int)))) : run (env tab32 (fun _ _ => none)) stop61 (fun v _ => finQ 3 (.st (.int .u64) (.st .bool (.st1 .bool))) Q v) W 100000 (startFr 61 Tryd.f61 (bodyOf Tryd.f61) (argsOf (.st (.int .u64) (.st (.int .u64) (.st .bool (.st1 (.int .i64))))) x)) [] [] = (tree61 x).wp (kont W Q (head61 x)) := by kernel_rfl
theorem run61h0 (W : Cfg) (Q : (Int × (Bool × Bool)) → Prop) (x : (Int × (Int × (Bool × Int)))) (v3 : Int) (v4 : Int) (v5 : Int) : run (env tab32 (fun _ _ => none)) stop61 (fun v _ => finQ 3 (.st (.int .u64) (.st .bool (.st1 .bool))) Q v) W 100000 (head61 x (.h0 v3 v4 v5)).fr.enter (head61 x (.h0 v3 v4 v5)).stk (head61 x (.h0 v3 v4 v5)).H = (step61 x (.h0 v3 v4 v5)).wp (kont W Q (head61 x)) := by kernel_rfl
theorem runs61 (W : Cfg) (Q : (Int × (Bool × Bool)) → Prop) (x : (Int × (Int × (Bool × Int)))) : ∀ j : J61, run (env tab32 (fun _ _ => none)) stop61 (fun v _ => finQ 3 (.st (.int .u64) (.st .bool (.st1 .bool))) Q v) W 100000 (head61 x j).fr.enter (head61 x j).stk (head61 x j).H = (step61 x j).wp (kont W Q (head61 x))
  | .h0 v3 v4 v5 => run61h0 W Q x v3 v4 v5
theorem ok61 : SpecOk env0 61 spec61 := SpecOk.env rfl (fun _ _ h => h) (spec_of_trees (E := (env tab32 (fun _ _ => none))) (sp := spec61) (valid _ _) (fun f sp h => SpecOk.env rfl (fun _ _ h => h) (tab32_ok f sp h)) (fn := Tryd.f61) (c := (bodyOf Tryd.f61)) (by kernel_rfl) (by kernel_rfl) tree61 step61 head61 run61 runs61 (fun _ h => endVal_ends h))

noncomputable def tab61 : FuncId → Option Spec
  | 61 => some spec61
  | f => tab32 f
theorem tab61_ok : ∀ f sp, tab61 f = some sp → SpecOk env0 f sp := by
  intro f sp h
  unfold tab61 at h
  split at h
  · cases h; exact ok61
  · exact tab32_ok f sp h

/-! ### sundial/sundialref13.Sub -/
noncomputable def tree33 (x : (Int × (Int × (Int × Bool)))) : Tr (Int × (Bool × (Bool × (Bool × (Bool × Bool))))) :=
  let y0 : (Int × Bool) := x.2.2
  let y1 : (Int × (Int × (Bool × Int))) := (x.2.1, (y0.1, (y0.2, x.1)))
  .need (pre61 y1) <|
  let y2 : (Int × (Bool × Bool)) := (fn61 y1)
  let y3 : Int := y2.1
  let y4 : (Int × Int) := (x.1, y3)
  .need (pre35 y4) <|
  let y5 : (Bool × Bool) := y2.2
  let y6 : (Bool × (Bool × (Bool × Bool))) := (fn35 y4).2
  let y7 : (Bool × (Bool × Bool)) := y6.2
  .ret (y3, (y5.1, (y6.1, (y7.1, (y5.2, y7.2.2)))))
noncomputable def fn33 (x : (Int × (Int × (Int × Bool)))) : (Int × (Bool × (Bool × (Bool × (Bool × Bool))))) := (tree33 x).val
def pre33 (x : (Int × (Int × (Int × Bool)))) : Prop := (tree33 x).ok
noncomputable def spec33 : Spec := { dom := (.st (.int .i64) (.st (.int .u64) (.st (.int .u64) (.st1 .bool)))), cod := (.st (.int .u64) (.st1 (.st .bool (.st .bool (.st .bool (.st .bool (.st1 .bool))))))), n := 2, pre := pre33, f := fn33 }
theorem run33 (W : Cfg) (Q : (Int × (Bool × (Bool × (Bool × (Bool × Bool))))) → Prop) (x : (Int × (Int × (Int × Bool)))) : run (env tab61 (fun _ _ => none)) (fun _ _ _ => none) (fun v _ => finQ 2 (.st (.int .u64) (.st1 (.st .bool (.st .bool (.st .bool (.st .bool (.st1 .bool))))))) Q v) W 100000 (startFr 33 Tryd.f33 (bodyOf Tryd.f33) (argsOf (.st (.int .i64) (.st (.int .u64) (.st (.int .u64) (.st1 .bool)))) x)) [] [] = (tree33 x).wp Q := by kernel_rfl
theorem ok33 : SpecOk env0 33 spec33 := SpecOk.env rfl (fun _ _ h => h) (spec_of_tree (E := (env tab61 (fun _ _ => none))) (sp := spec33) (valid _ _) (fun f sp h => SpecOk.env rfl (fun _ _ h => h) (tab61_ok f sp h)) (fn := Tryd.f33) (c := (bodyOf Tryd.f33)) (by kernel_rfl) (by kernel_rfl) tree33 run33 (fun _ h => Tr.gives_val h))

noncomputable def tab33 : FuncId → Option Spec
  | 33 => some spec33
  | f => tab61 f
theorem tab33_ok : ∀ f sp, tab33 f = some sp → SpecOk env0 f sp := by
  intro f sp h
  unfold tab33 at h
  split at h
  · cases h; exact ok33
  · exact tab61_ok f sp h

/-! ### sundial/alu.Inc -/
noncomputable def tree36 (x : (Int × (Int × (Bool × (Bool × (Bool × (Bool × Bool))))))) : Tr (Int × (Bool × (Bool × (Bool × (Bool × Bool))))) :=
  let y0 : (Int × (Int × (Int × Bool))) := (x.1, (x.2.1, (1, false)))
  .need (pre27 y0) <|
  let y1 : (Int × (Bool × (Bool × (Bool × (Bool × Bool))))) := (fn27 y0)
  .ret (y1.1, (x.2.2.1, y1.2.2))
noncomputable def fn36 (x : (Int × (Int × (Bool × (Bool × (Bool × (Bool × Bool))))))) : (Int × (Bool × (Bool × (Bool × (Bool × Bool))))) := (tree36 x).val
def pre36 (x : (Int × (Int × (Bool × (Bool × (Bool × (Bool × Bool))))))) : Prop := (tree36 x).ok
noncomputable def spec36 : Spec := { dom := (.st (.int .i64) (.st (.int .u64) (.st1 (.st .bool (.st .bool (.st .bool (.st .bool (.st1 .bool)))))))), cod := (.st (.int .u64) (.st1 (.st .bool (.st .bool (.st .bool (.st .bool (.st1 .bool))))))), n := 2, pre := pre36, f := fn36 }
theorem run36 (W : Cfg) (Q : (Int × (Bool × (Bool × (Bool × (Bool × Bool))))) → Prop) (x : (Int × (Int × (Bool × (Bool × (Bool × (Bool × Bool))))))) : run (env tab33 (fun _ _ => none)) (fun _ _ _ => none) (fun v _ => finQ 2 (.st (.int .u64) (.st1 (.st .bool (.st .bool (.st .bool (.st .bool (.st1 .bool))))))) Q v) W 100000 (startFr 36 Tryd.f36 (bodyOf Tryd.f36) (argsOf (.st (.int .i64) (.st (.int .u64) (.st1 (.st .bool (.st .bool (.st .bool (.st .bool (.st1 .bool)))))))) x)) [] [] = (tree36 x).wp Q := by kernel_rfl
theorem ok36 : SpecOk env0 36 spec36 := SpecOk.env rfl (fun _ _ h => h) (spec_of_tree (E := (env tab33 (fun _ _ => none))) (sp := spec36) (valid _ _) (fun f sp h => SpecOk.env rfl (fun _ _ h => h) (tab33_ok f sp h)) (fn := Tryd.f36) (c := (bodyOf Tryd.f36)) (by kernel_rfl) (by kernel_rfl) tree36 run36 (fun _ h => Tr.gives_val h))

noncomputable def tab36 : FuncId → Option Spec
  | 36 => some spec36
  | f => tab33 f
theorem tab36_ok : ∀ f sp, tab36 f = some sp → SpecOk env0 f sp := by
  intro f sp h
  unfold tab36 at h
  split at h
  · cases h; exact ok36
  · exact tab33_ok f sp h

/-! ### sundial/sundialref13.Inc -/
noncomputable def tree37 (x : (Int × (Int × (Bool × (Bool × (Bool × (Bool × Bool))))))) : Tr (Int × (Bool × (Bool × (Bool × (Bool × Bool))))) :=
  let y0 : (Int × (Int × (Int × Bool))) := (x.1, (x.2.1, (1, false)))
  .need (pre32 y0) <|
  let y1 : (Int × (Bool × (Bool × (Bool × (Bool × Bool))))) := (fn32 y0)
  .ret (y1.1, (x.2.2.1, y1.2.2))
noncomputable def fn37 (x : (Int × (Int × (Bool × (Bool × (Bool × (Bool × Bool))))))) : (Int × (Bool × (Bool × (Bool × (Bool × Bool))))) := (tree37 x).val
def pre37 (x : (Int × (Int × (Bool × (Bool × (Bool × (Bool × Bool))))))) : Prop := (tree37 x).ok
noncomputable def spec37 : Spec := { dom := (.st (.int .i64) (.st (.int .u64) (.st1 (.st .bool (.st .bool (.st .bool (.st .bool (.st1 .bool)))))))), cod := (.st (.int .u64) (.st1 (.st .bool (.st .bool (.st .bool (.st .bool (.st1 .bool))))))), n := 2, pre := pre37, f := fn37 }
theorem run37 (W : Cfg) (Q : (Int × (Bool × (Bool × (Bool × (Bool × Bool))))) → Prop) (x : (Int × (Int × (Bool × (Bool × (Bool × (Bool × Bool))))))) : run (env tab36 (fun _ _ => none)) (fun _ _ _ => none) (fun v _ => finQ 2 (.st (.int .u64) (.st1 (.st .bool (.st .bool (.st .bool (.st .bool (.st1 .bool))))))) Q v) W 100000 (startFr 37 Tryd.f37 (bodyOf Tryd.f37) (argsOf (.st (.int .i64) (.st (.int .u64) (.st1 (.st .bool (.st .bool (.st .bool (.st .bool (.st1 .bool)))))))) x)) [] [] = (tree37 x).wp Q := by kernel_rfl
theorem ok37 : SpecOk env0 37 spec37 := SpecOk.env rfl (fun _ _ h => h) (spec_of_tree (E := (env tab36 (fun _ _ => none))) (sp := spec37) (valid _ _) (fun f sp h => SpecOk.env rfl (fun _ _ h => h) (tab36_ok f sp h)) (fn := Tryd.f37) (c := (bodyOf Tryd.f37)) (by kernel_rfl) (by kernel_rfl) tree37 run37 (fun _ h => Tr.gives_val h))

noncomputable def tab37 : FuncId → Option Spec
  | 37 => some spec37
  | f => tab36 f
theorem tab37_ok : ∀ f sp, tab37 f = some sp → SpecOk env0 f sp := by
  intro f sp h
  unfold tab37 at h
  split at h
  · cases h; exact ok37
  · exact tab36_ok f sp h

/-! ### sundial/alu.Dec -/
noncomputable def tree38 (x : (Int × (Int × (Bool × (Bool × (Bool × (Bool × Bool))))))) : Tr (Int × (Bool × (Bool × (Bool × (Bool × Bool))))) :=
  let y0 : (Int × (Int × (Int × Bool))) := (x.1, (x.2.1, (1, false)))
  .need (pre26 y0) <|
  let y1 : (Int × (Bool × (Bool × (Bool × (Bool × Bool))))) := (fn26 y0)
  .ret (y1.1, (x.2.2.1, y1.2.2))
noncomputable def fn38 (x : (Int × (Int × (Bool × (Bool × (Bool × (Bool × Bool))))))) : (Int × (Bool × (Bool × (Bool × (Bool × Bool))))) := (tree38 x).val
def pre38 (x : (Int × (Int × (Bool × (Bool × (Bool × (Bool × Bool))))))) : Prop := (tree38 x).ok
noncomputable def spec38 : Spec := { dom := (.st (.int .i64) (.st (.int .u64) (.st1 (.st .bool (.st .bool (.st .bool (.st .bool (.st1 .bool)))))))), cod := (.st (.int .u64) (.st1 (.st .bool (.st .bool (.st .bool (.st .bool (.st1 .bool))))))), n := 2, pre := pre38, f := fn38 }
theorem run38 (W : Cfg) (Q : (Int × (Bool × (Bool × (Bool × (Bool × Bool))))) → Prop) (x : (Int × (Int × (Bool × (Bool × (Bool × (Bool × Bool))))))) : run (env tab37 (fun _ _ => none)) (fun _ _ _ => none) (fun v _ => finQ 2 (.st (.int .u64) (.st1 (.st .bool (.st .bool (.st .bool (.st .bool (.st1 .bool))))))) Q v) W 100000 (startFr 38 Tryd.f38 (bodyOf Tryd.f38) (argsOf (.st (.int .i64) (.st (.int .u64) (.st1 (.st .bool (.st .bool (.st .bool (.st .bool (.st1 .bool)))))))) x)) [] [] = (tree38 x).wp Q := by kernel_rfl
theorem ok38 : SpecOk env0 38 spec38 := SpecOk.env rfl (fun _ _ h => h) (spec_of_tree (E := (env tab37 (fun _ _ => none))) (sp := spec38) (valid _ _) (fun f sp h => SpecOk.env rfl (fun _ _ h => h) (tab37_ok f sp h)) (fn := Tryd.f38) (c := (bodyOf Tryd.f38)) (by kernel_rfl) (by kernel_rfl) tree38 run38 (fun _ h => Tr.gives_val h))

noncomputable def tab38 : FuncId → Option Spec
  | 38 => some spec38
  | f => tab37 f
theorem tab38_ok : ∀ f sp, tab38 f = some sp → SpecOk env0 f sp := by
  intro f sp h
  unfold tab38 at h
  split at h
  · cases h; exact ok38
  · exact tab37_ok f sp h

/-! ### sundial/sundialref13.Dec -/
noncomputable def tree39 (x : (Int × (Int × (Bool × (Bool × (Bool × (Bool × Bool))))))) : Tr (Int × (Bool × (Bool × (Bool × (Bool × Bool))))) :=
  let y0 : (Int × (Int × (Int × Bool))) := (x.1, (x.2.1, (1, false)))
  .need (pre33 y0) <|
  let y1 : (Int × (Bool × (Bool × (Bool × (Bool × Bool))))) := (fn33 y0)
  .ret (y1.1, (x.2.2.1, y1.2.2))
noncomputable def fn39 (x : (Int × (Int × (Bool × (Bool × (Bool × (Bool × Bool))))))) : (Int × (Bool × (Bool × (Bool × (Bool × Bool))))) := (tree39 x).val
def pre39 (x : (Int × (Int × (Bool × (Bool × (Bool × (Bool × Bool))))))) : Prop := (tree39 x).ok
noncomputable def spec39 : Spec := { dom := (.st (.int .i64) (.st (.int .u64) (.st1 (.st .bool (.st .bool (.st .bool (.st .bool (.st1 .bool)))))))), cod := (.st (.int .u64) (.st1 (.st .bool (.st .bool (.st .bool (.st .bool (.st1 .bool))))))), n := 2, pre := pre39, f := fn39 }
theorem run39 (W : Cfg) (Q : (Int × (Bool × (Bool × (Bool × (Bool × Bool))))) → Prop) (x : (Int × (Int × (Bool × (Bool × (Bool × (Bool × Bool))))))) : run (env tab38 (fun _ _ => none)) (fun _ _ _ => none) (fun v _ => finQ 2 (.st (.int .u64) (.st1 (.st .bool (.st .bool (.st .bool (.st .bool (.st1 .bool))))))) Q v) W 100000 (startFr 39 Tryd.f39 (bodyOf Tryd.f39) (argsOf (.st (.int .i64) (.st (.int .u64) (.st1 (.st .bool (.st .bool (.st .bool (.st .bool (.st1 .bool)))))))) x)) [] [] = (tree39 x).wp Q := by kernel_rfl
theorem ok39 : SpecOk env0 39 spec39 := SpecOk.env rfl (fun _ _ h => h) (spec_of_tree (E := (env tab38 (fun _ _ => none))) (sp := spec39) (valid _ _) (fun f sp h => SpecOk.env rfl (fun _ _ h => h) (tab38_ok f sp h)) (fn := Tryd.f39) (c := (bodyOf Tryd.f39)) (by kernel_rfl) (by kernel_rfl) tree39 run39 (fun _ h => Tr.gives_val h))

noncomputable def tab39 : FuncId → Option Spec
  | 39 => some spec39
  | f => tab38 f
theorem tab39_ok : ∀ f sp, tab39 f = some sp → SpecOk env0 f sp := by
  intro f sp h
  unfold tab39 at h
  split at h
  · cases h; exact ok39
  · exact tab38_ok f sp h

/-! ### sundial/sundialref13.Neg -/
noncomputable def tree40 (x : (Int × Int)) : Tr (Int × (Bool × (Bool × (Bool × (Bool × Bool))))) :=
  let y0 : (Int × (Int × (Int × Bool))) := (x.1, (0, (x.2, false)))
  .need (pre33 y0) <|
  .ret (fn33 y0)
noncomputable def fn40 (x : (Int × Int)) : (Int × (Bool × (Bool × (Bool × (Bool × Bool))))) := (tree40 x).val
def pre40 (x : (Int × Int)) : Prop := (tree40 x).ok
noncomputable def spec40 : Spec := { dom := (.st (.int .i64) (.st1 (.int .u64))), cod := (.st (.int .u64) (.st1 (.st .bool (.st .bool (.st .bool (.st .bool (.st1 .bool))))))), n := 2, pre := pre40, f := fn40 }
theorem run40 (W : Cfg) (Q : (Int × (Bool × (Bool × (Bool × (Bool × Bool))))) → Prop) (x : (Int × Int)) : run (env tab39 (fun _ _ => none)) (fun _ _ _ => none) (fun v _ => finQ 2 (.st (.int .u64) (.st1 (.st .bool (.st .bool (.st .bool (.st .bool (.st1 .bool))))))) Q v) W 100000 (startFr 40 Tryd.f40 (bodyOf Tryd.f40) (argsOf (.st (.int .i64) (.st1 (.int .u64))) x)) [] [] = (tree40 x).wp Q := by kernel_rfl
theorem ok40 : SpecOk env0 40 spec40 := SpecOk.env rfl (fun _ _ h => h) (spec_of_tree (E := (env tab39 (fun _ _ => none))) (sp := spec40) (valid _ _) (fun f sp h => SpecOk.env rfl (fun _ _ h => h) (tab39_ok f sp h)) (fn := Tryd.f40) (c := (bodyOf Tryd.f40)) (by kernel_rfl) (by kernel_rfl) tree40 run40 (fun _ h => Tr.gives_val h))

noncomputable def tab40 : FuncId → Option Spec
  | 40 => some spec40
  | f => tab39 f
theorem tab40_ok : ∀ f sp, tab40 f = some sp → SpecOk env0 f sp := by
  intro f sp h
  unfold tab40 at h
  split at h
  · cases h; exact ok40
  · exact tab39_ok f sp h

/-! ### sundial/sundialref13.count -/
noncomputable def tree63 (x : (Int × Int)) : Tr Int :=
  .ite (ile 8 x.1) (
    .need ((64 : Int) ≠ 0) <|
    let y0 : Int := (iconv .i64 x.2)
    .ret (irem .i64 y0 64)) (
    .need ((32 : Int) ≠ 0) <|
    let y1 : Int := (iconv .i64 x.2)
    .ret (irem .i64 y1 32))
noncomputable def fn63 (x : (Int × Int)) : Int := (tree63 x).val
def pre63 (x : (Int × Int)) : Prop := (tree63 x).ok
noncomputable def spec63 : Spec := { dom := (.st (.int .i64) (.st1 (.int .u8))), cod := (.int .i64), n := 1, pre := pre63, f := fn63 }
theorem run63 (W : Cfg) (Q : Int → Prop) (x : (Int × Int)) : run (env tab40 (fun _ _ => none)) (fun _ _ _ => none) (fun v _ => finQ 1 (.int .i64) Q v) W 100000 (startFr 63 Tryd.f63 (bodyOf Tryd.f63) (argsOf (.st (.int .i64) (.st1 (.int .u8))) x)) [] [] = (tree63 x).wp Q := by kernel_rfl
theorem ok63 : SpecOk env0 63 spec63 := SpecOk.env rfl (fun _ _ h => h) (spec_of_tree (E := (env tab40 (fun _ _ => none))) (sp := spec63) (valid _ _) (fun f sp h => SpecOk.env rfl (fun _ _ h => h) (tab40_ok f sp h)) (fn := Tryd.f63) (c := (bodyOf Tryd.f63)) (by kernel_rfl) (by kernel_rfl) tree63 run63 (fun _ h => Tr.gives_val h))

noncomputable def tab63 : FuncId → Option Spec
  | 63 => some spec63
  | f => tab40 f
theorem tab63_ok : ∀ f sp, tab63 f = some sp → SpecOk env0 f sp := by
  intro f sp h
  unfold tab63 at h
  split at h
  · cases h; exact ok63
  · exact tab40_ok f sp h

/-! ### sundial/sundialref01.Turn -/
inductive J64 where
  | h0 (v0 : Int) (v1 : Int) (v3 : Int) (v4 : Int)
noncomputable def tree64 (x : (Int × (Int × Int))) : Tr (J64 ⊕ Int) :=
  let y0 : Int := x.2.2
  .need (pre58 y0) <|
  let y1 : Int := (imul .i64 8 (fn58 y0))
  .need ((y1 : Int) ≠ 0) <|
  .need ((y1 : Int) ≠ 0) <|
  let y2 : (Int × Int) := (x.1, y0)
  .need (pre21 y2) <|
  .ret (.inl (.h0 (fn21 y2) (irem .i64 (iadd .i64 (irem .i64 x.2.1 y1) y1) y1) y1 0))
noncomputable def step64 (x : (Int × (Int × Int))) : J64 → Tr (J64 ⊕ Int)
  | .h0 v0 v1 v3 v4 =>
    .ite (ilt v4 v1) (
      let y0 : Int := (iconv .u64 (isub .i64 v3 1))
      .need ((0 : Int) ≤ y0) <|
      .need ((0 : Int) ≤ 1) <|
      let y1 : (Int × Int) := ((ior .u64 (ishl .u64 v0 1) (iand .u64 (ishr .u64 v0 y0) 1)), x.2.2)
      .need (pre21 y1) <|
      .ret (.inl (.h0 (fn21 y1) v1 v3 (iadd .i64 v4 1)))) (
      .ret (.inr v0))
noncomputable def head64 (x : (Int × (Int × Int))) : J64 → Head
  | .h0 v0 v1 v3 v4 =>
    { fr := { id := 64, kind := .top, T := [(.int .u64 v0), (.int .i64 v1), (.int .i64 x.2.2)] ++ List.replicate 4 .any ++ [(.int .i64 v3), (.int .i64 v4)] ++ List.replicate 32 .any, items := [.lp (subc [1, 1, 1, 1, 0, 1, 0, 0] (bodyOf Tryd.f64)), .blk 0, .code (subc [1, 1, 1, 1, 1] (bodyOf Tryd.f64))], D := [], base := 0 },
      stk := [],
      H := [] }
noncomputable def stop64 : FuncId → Nat → Nat → Option Cut
  | 64, 0, 0 => some { tmps := [0, 1, 2, 7, 8], loops := [], dead := [] }
  | _, _, _ => none
noncomputable def fn64 (x : (Int × (Int × Int))) : Int := endVal (TC.dflt (.int .u64)) (step64 x) (tree64 x)
def pre64 (x : (Int × (Int × Int))) : Prop := ∃ r, Ends (step64 x) r (tree64 x)
noncomputable def spec64 : Spec := { dom := (.st (.int .u64) (.st (.int .i64) (.st1 (.int .i64)))), cod := (.int .u64), n := 1, pre := pre64, f := fn64 }
theorem run64 (W : Cfg) (Q : Int → Prop) (x : (Int × (Int × Int))) : run (env tab63 (fun _ _ => none)) stop64 (fun v _ => finQ 1 (.int .u64) Q v) W 100000 (startFr 64 Tryd.f64 (bodyOf Tryd.f64) (argsOf (.st (.int .u64) (.st (.int .i64) (.st1 (.int .i64)))) x)) [] [] = (tree64 x).wp (kont W Q (head64 x)) := by kernel_rfl
theorem run64h0 (W : Cfg) (Q : Int → Prop) (x : (Int × (Int × Int))) (v0 : Int) (v1 : Int) (v3 : Int) (v4 : Int) : run (env tab63 (fun _ _ => none)) stop64 (fun v _ => finQ 1 (.int .u64) Q v) W 100000 (head64 x (.h0 v0 v1 v3 v4)).fr.enter (head64 x (.h0 v0 v1 v3 v4)).stk (head64 x (.h0 v0 v1 v3 v4)).H = (step64 x (.h0 v0 v1 v3 v4)).wp (kont W Q (head64 x)) := by kernel_rfl
theorem runs64 (W : Cfg) (Q : Int → Prop) (x : (Int × (Int × Int))) : ∀ j : J64, run (env tab63 (fun _ _ => none)) stop64 (fun v _ => finQ 1 (.int .u64) Q v) W 100000 (head64 x j).fr.enter (head64 x j).stk (head64 x j).H = (step64 x j).wp (kont W Q (head64 x))
  | .h0 v0 v1 v3 v4 => run64h0 W Q x v0 v1 v3 v4
theorem ok64 : SpecOk env0 64 spec64 := SpecOk.env rfl (fun _ _ h => h) (spec_of_trees (E := (env tab63 (fun _ _ => none))) (sp := spec64) (valid _ _) (fun f sp h => SpecOk.env rfl (fun _ _ h => h) (tab63_ok f sp h)) (fn := Tryd.f64) (c := (bodyOf Tryd.f64)) (by kernel_rfl) (by kernel_rfl) tree64 step64 head64 run64 runs64 (fun _ h => endVal_ends h))

noncomputable def tab64 : FuncId → Option Spec
  | 64 => some spec64
  | f => tab63 f
theorem tab64_ok : ∀ f sp, tab64 f = some sp → SpecOk env0 f sp := by
  intro f sp h
  unfold tab64 at h
  split at h
  · cases h; exact ok64
  · exact tab63_ok f sp h

/-! ### sundial/sundialref13.Shift -/
inductive J41 where
  | h0 (v2 : Int) (v3 : Int) (v4 : Int) (v5 : Int) (v11 : Bool)
noncomputable def tree41 (x : (Int × (Int × (Int × (Int × (Bool × (Bool × (Bool × (Bool × Bool))))))))) : Tr (J41 ⊕ (Int × (Bool × (Bool × (Bool × (Bool × Bool)))))) :=
  let y0 : Int := x.2.1
  let y1 : (Int × (Int × (Bool × (Bool × (Bool × (Bool × Bool)))))) := x.2.2
  let y2 : (Int × (Bool × (Bool × (Bool × (Bool × Bool))))) := y1.2
  let y3 : (Int × Int) := (y0, y2.1)
  .need (pre63 y3) <|
  let y4 : (Int × Int) := (y1.1, y0)
  .need (pre21 y4) <|
  let y5 : Int := (fn63 y3)
  .ite ((ieq y5 0) == false) (
    .ite ((ine x.1 16) == true) (
      .ite ((ine x.1 17) == true) (
        .ite ((ine x.1 18) == true) (
          .ite ((ine x.1 19) == true) (
            .ite (ine x.1 20) (
              let y6 : Int := (fn21 y4)
              let y7 : (Bool × (Bool × (Bool × (Bool × Bool)))) := y2.2
              let y8 : (Int × (Bool × (Bool × (Bool × (Bool × Bool))))) := (y6, y7)
              .ret (.inr y8)) (
              let y9 : Int := (fn21 y4)
              let y10 : (Bool × (Bool × (Bool × (Bool × Bool)))) := y2.2
              let y11 : Bool := y10.1
              .ret (.inl (.h0 y9 y5 y9 0 y11)))) (
            let y12 : Int := (fn21 y4)
            let y13 : (Bool × (Bool × (Bool × (Bool × Bool)))) := y2.2
            let y14 : Bool := y13.1
            .ret (.inl (.h0 y12 y5 y12 0 y14)))) (
          let y15 : Int := (fn21 y4)
          let y16 : (Bool × (Bool × (Bool × (Bool × Bool)))) := y2.2
          let y17 : Bool := y16.1
          .ret (.inl (.h0 y15 y5 y15 0 y17)))) (
        let y18 : Int := (fn21 y4)
        let y19 : (Bool × (Bool × (Bool × (Bool × Bool)))) := y2.2
        let y20 : Bool := y19.1
        .ret (.inl (.h0 y18 y5 y18 0 y20)))) (
      let y21 : Int := (fn21 y4)
      let y22 : (Bool × (Bool × (Bool × (Bool × Bool)))) := y2.2
      let y23 : Bool := y22.1
      .ret (.inl (.h0 y21 y5 y21 0 y23)))) (
    let y24 : Int := (fn21 y4)
    let y25 : (Bool × (Bool × (Bool × (Bool × Bool)))) := y2.2
    let y26 : (Int × (Bool × (Bool × (Bool × (Bool × Bool))))) := (y24, y25)
    .ret (.inr y26))
noncomputable def step41 (x : (Int × (Int × (Int × (Int × (Bool × (Bool × (Bool × (Bool × Bool))))))))) : J41 → Tr (J41 ⊕ (Int × (Bool × (Bool × (Bool × (Bool × Bool))))))
  | .h0 v2 v3 v4 v5 v11 =>
    .ite (ilt v5 v3) (
      let y0 : Int := x.2.1
      let y1 : (Int × Int) := (v4, y0)
      .need (pre59 y1) <|
      let y2 : Bool := (ieq x.1 16)
      .ite y2 (
        .need ((0 : Int) ≤ 1) <|
        let y3 : (Int × Int) := ((ishl .u64 v4 1), y0)
        .need (pre21 y3) <|
        let y4 : Int := (iadd .i64 v5 1)
        let y5 : Bool := (fn59 y1)
        .ret (.inl (.h0 v2 v3 (fn21 y3) y4 y5))) (
        let y6 : Bool := (ieq x.1 17)
        .ite y6 (
          .need ((0 : Int) ≤ 1) <|
          let y7 : Int := (iadd .i64 v5 1)
          let y8 : Bool := (ieq (iand .u64 v4 1) 1)
          .ret (.inl (.h0 v2 v3 (ishr .u64 v4 1) y7 y8))) (
          .ite (ieq x.1 18) (
            .need (pre29 y1) <|
            .need ((0 : Int) ≤ 1) <|
            let y9 : (Int × Int) := ((iconv .u64 (ishr .i64 (iconv .i64 (fn29 y1)) 1)), y0)
            .need (pre21 y9) <|
            let y10 : Int := (iadd .i64 v5 1)
            let y11 : Bool := (ieq (iand .u64 v4 1) 1)
            .ret (.inl (.h0 v2 v3 (fn21 y9) y10 y11))) (
            let y12 : Bool := (ieq x.1 19)
            .ite y12 (
              let y13 : (Int × (Int × Int)) := (v4, (1, y0))
              .need (pre64 y13) <|
              let y14 : Int := (iadd .i64 v5 1)
              .ret (.inl (.h0 v2 v3 (fn64 y13) y14 v11))) (
              let y15 : Bool := (ieq x.1 20)
              .ite y15 (
                let y16 : (Int × (Int × Int)) := (v4, ((-1), y0))
                .need (pre64 y16) <|
                let y17 : Int := (iadd .i64 v5 1)
                .ret (.inl (.h0 v2 v3 (fn64 y16) y17 v11))) (
                let y18 : Int := (iadd .i64 v5 1)
                .ret (.inl (.h0 v2 v3 v4 y18 v11)))))))) (
      let y19 : Bool := (ieq x.1 19)
      .ite y19 (
        let y20 : Int := x.2.1
        let y21 : (Int × Int) := (v4, y20)
        .need (pre59 y21) <|
        let y22 : Bool := (ieq (iand .u64 v4 1) 1)
        let y23 : (Bool × (Bool × (Bool × Bool))) := x.2.2.2.2.2
        let y24 : Bool := y23.1
        let y25 : (Bool × (Bool × Bool)) := y23.2
        let y26 : Bool := y25.1
        let y27 : Bool := (fn59 y21)
        let y28 : Bool := y25.2.2
        .ret (.inr (v4, (y22, (y24, (y26, ((!(y27 == y22)), y28))))))) (
        let y29 : Bool := (ieq x.1 20)
        .ite y29 (
          let y30 : Int := x.2.1
          let y31 : (Int × Int) := (v4, y30)
          .need (pre59 y31) <|
          .need ((0 : Int) ≤ 1) <|
          let y32 : (Int × Int) := ((ishl .u64 v4 1), y30)
          .need (pre59 y32) <|
          let y33 : Bool := (fn59 y31)
          let y34 : (Bool × (Bool × (Bool × Bool))) := x.2.2.2.2.2
          let y35 : Bool := y34.1
          let y36 : (Bool × (Bool × Bool)) := y34.2
          let y37 : Bool := y36.1
          let y38 : Bool := y36.2.2
          .ret (.inr (v4, (y33, (y35, (y37, ((!(y33 == (fn59 y32))), y38))))))) (
          let y39 : Int := x.2.1
          let y40 : (Int × Int) := (y39, v4)
          .need (pre35 y40) <|
          let y41 : Bool := (ieq x.1 16)
          .ite (y41 == true) (
            let y42 : (Bool × (Bool × (Bool × Bool))) := (fn35 y40).2
            let y43 : (Bool × (Bool × Bool)) := y42.2
            let y44 : Bool := y43.1
            .ite ((!(y44 == v11)) == false) (
              let y45 : Bool := (ieq x.1 17)
              let y46 : Bool := (y45 == true)
              .ite y46 (
                let y47 : (Int × Int) := (v2, y39)
                .need (pre59 y47) <|
                let y48 : Bool := y42.1
                let y49 : Bool := y43.2.2
                let y50 : (Int × (Bool × (Bool × (Bool × (Bool × Bool))))) := (v4, (v11, (y48, (y44, ((fn59 y47), y49)))))
                .ret (.inr y50)) (
                let y51 : Bool := y42.1
                let y52 : Bool := y43.2.2
                let y53 : (Int × (Bool × (Bool × (Bool × (Bool × Bool))))) := (v4, (v11, (y51, (y44, (false, y52)))))
                .ret (.inr y53))) (
              let y54 : Bool := y42.1
              let y55 : Bool := y43.2.2
              .ret (.inr (v4, (v11, (y54, (y44, (true, y55)))))))) (
            let y56 : Bool := (ieq x.1 17)
            let y57 : Bool := (y56 == true)
            .ite y57 (
              let y58 : (Int × Int) := (v2, y39)
              .need (pre59 y58) <|
              let y59 : (Bool × (Bool × (Bool × Bool))) := (fn35 y40).2
              let y60 : Bool := y59.1
              let y61 : (Bool × (Bool × Bool)) := y59.2
              let y62 : Bool := y61.1
              let y63 : Bool := y61.2.2
              let y64 : (Int × (Bool × (Bool × (Bool × (Bool × Bool))))) := (v4, (v11, (y60, (y62, ((fn59 y58), y63)))))
              .ret (.inr y64)) (
              let y65 : (Bool × (Bool × (Bool × Bool))) := (fn35 y40).2
              let y66 : Bool := y65.1
              let y67 : (Bool × (Bool × Bool)) := y65.2
              let y68 : Bool := y67.1
              let y69 : Bool := y67.2.2
              let y70 : (Int × (Bool × (Bool × (Bool × (Bool × Bool))))) := (v4, (v11, (y66, (y68, (false, y69)))))
              .ret (.inr y70))))))
noncomputable def head41 (x : (Int × (Int × (Int × (Int × (Bool × (Bool × (Bool × (Bool × Bool))))))))) : J41 → Head
  | .h0 v2 v3 v4 v5 v11 =>
    { fr := { id := 41, kind := .top, T := [(.int .u8 x.1), (.int .i64 x.2.1), (.int .u64 v2)] ++ List.replicate 8 .any ++ [(.ptr 0 []), (.int .i64 v3), (.int .u64 v4), (.ptr 1 []), (.int .i64 v5)] ++ List.replicate 142 .any, items := [.lp (subc [1, 1, 1, 1, 1, 1, 0, 1, 0, 0] (bodyOf Tryd.f41)), .blk 0, .code (subc [1, 1, 1, 1, 1, 1, 1] (bodyOf Tryd.f41))], D := [], base := 0 },
      stk := [],
      H := [.cell true 40 (.agg [1, 1, 1, 1, 1] [(.bool false), (.bool false), (.bool false), (.bool false), (.bool false)]), .cell true 40 (.agg [1, 1, 1, 1, 1] [(.bool v11), (.bool x.2.2.2.2.2.1), (.bool x.2.2.2.2.2.2.1), (.bool x.2.2.2.2.2.2.2.1), (.bool x.2.2.2.2.2.2.2.2)])] }
noncomputable def stop41 : FuncId → Nat → Nat → Option Cut
  | 41, 0, 0 => some { tmps := [0, 1, 2, 11, 12, 13, 14, 15], loops := [], dead := [] }
  | _, _, _ => none
noncomputable def fn41 (x : (Int × (Int × (Int × (Int × (Bool × (Bool × (Bool × (Bool × Bool))))))))) : (Int × (Bool × (Bool × (Bool × (Bool × Bool))))) := endVal (TC.dflt (.st (.int .u64) (.st1 (.st .bool (.st .bool (.st .bool (.st .bool (.st1 .bool)))))))) (step41 x) (tree41 x)
def pre41 (x : (Int × (Int × (Int × (Int × (Bool × (Bool × (Bool × (Bool × Bool))))))))) : Prop := ∃ r, Ends (step41 x) r (tree41 x)
noncomputable def spec41 : Spec := { dom := (.st (.int .u8) (.st (.int .i64) (.st (.int .u64) (.st (.int .u8) (.st1 (.st .bool (.st .bool (.st .bool (.st .bool (.st1 .bool)))))))))), cod := (.st (.int .u64) (.st1 (.st .bool (.st .bool (.st .bool (.st .bool (.st1 .bool))))))), n := 2, pre := pre41, f := fn41 }
theorem run41 (W : Cfg) (Q : (Int × (Bool × (Bool × (Bool × (Bool × Bool))))) → Prop) (x : (Int × (Int × (Int × (Int × (Bool × (Bool × (Bool × (Bool × Bool))))))))) : run (env tab64 (fun _ _ => none)) stop41 (fun v _ => finQ 2 (.st (.int .u64) (.st1 (.st .bool (.st .bool (.st .bool (.st .bool (.st1 .bool))))))) Q v) W 100000 (startFr 41 Tryd.f41 (bodyOf Tryd.f41) (argsOf (.st (.int .u8) (.st (.int .i64) (.st (.int .u64) (.st (.int .u8) (.st1 (.st .bool (.st .bool (.st .bool (.st .bool (.st1 .bool)))))))))) x)) [] [] = (tree41 x).wp (kont W Q (head41 x)) := by kernel_rfl
theorem run41h0 (W : Cfg) (Q : (Int × (Bool × (Bool × (Bool × (Bool × Bool))))) → Prop) (x : (Int × (Int × (Int × (Int × (Bool × (Bool × (Bool × (Bool × Bool))))))))) (v2 : Int) (v3 : Int) (v4 : Int) (v5 : Int) (v11 : Bool) : run (env tab64 (fun _ _ => none)) stop41 (fun v _ => finQ 2 (.st (.int .u64) (.st1 (.st .bool (.st .bool (.st .bool (.st .bool (.st1 .bool))))))) Q v) W 100000 (head41 x (.h0 v2 v3 v4 v5 v11)).fr.enter (head41 x (.h0 v2 v3 v4 v5 v11)).stk (head41 x (.h0 v2 v3 v4 v5 v11)).H = (step41 x (.h0 v2 v3 v4 v5 v11)).wp (kont W Q (head41 x)) := by kernel_rfl
theorem runs41 (W : Cfg) (Q : (Int × (Bool × (Bool × (Bool × (Bool × Bool))))) → Prop) (x : (Int × (Int × (Int × (Int × (Bool × (Bool × (Bool × (Bool × Bool))))))))) : ∀ j : J41, run (env tab64 (fun _ _ => none)) stop41 (fun v _ => finQ 2 (.st (.int .u64) (.st1 (.st .bool (.st .bool (.st .bool (.st .bool (.st1 .bool))))))) Q v) W 100000 (head41 x j).fr.enter (head41 x j).stk (head41 x j).H = (step41 x j).wp (kont W Q (head41 x))
  | .h0 v2 v3 v4 v5 v11 => run41h0 W Q x v2 v3 v4 v5 v11
theorem ok41 : SpecOk env0 41 spec41 := SpecOk.env rfl (fun _ _ h => h) (spec_of_trees (E := (env tab64 (fun _ _ => none))) (sp := spec41) (valid _ _) (fun f sp h => SpecOk.env rfl (fun _ _ h => h) (tab64_ok f sp h)) (fn := Tryd.f41) (c := (bodyOf Tryd.f41)) (by kernel_rfl) (by kernel_rfl) tree41 step41 head41 run41 runs41 (fun _ h => endVal_ends h))

noncomputable def tab41 : FuncId → Option Spec
  | 41 => some spec41
  | f => tab64 f
theorem tab41_ok : ∀ f sp, tab41 f = some sp → SpecOk env0 f sp := by
  intro f sp h
  unfold tab41 at h
  split at h
  · cases h; exact ok41
  · exact tab64_ok f sp h

/-! ### sundial/sundialref13.Mul -/
noncomputable def tree43 (x : (Int × (Int × Int))) : Tr (Int × (Int × (Bool × (Bool × (Bool × (Bool × Bool)))))) :=
  let y0 : (Int × Int) := (x.2.1, x.1)
  .need (pre21 y0) <|
  let y1 : (Int × Int) := (x.2.2, x.1)
  .need (pre21 y1) <|
  let y2 : (Int × Int) := ((fn21 y0), (fn21 y1))
  .need (pre55 y2) <|
  let y3 : Int := (imin (imax x.1 1) 8)
  .ite (ilt y3 8) (
    let y4 : Int := (imul .i64 8 y3)
    let y5 : Int := (iconv .u64 y4)
    .need ((0 : Int) ≤ y5) <|
    let y6 : Int := (iconv .u64 (isub .i64 64 y4))
    .need ((0 : Int) ≤ y6) <|
    let y7 : (Int × Int) := (fn55 y2)
    let y8 : Int := y7.2
    let y9 : (Int × Int) := (y8, x.1)
    .need (pre21 y9) <|
    let y10 : Int := y7.1
    let y11 : (Int × Int) := ((ior .u64 (ishr .u64 y8 y5) (ishl .u64 y10 y6)), x.1)
    .need (pre21 y11) <|
    let y12 : Int := (fn21 y9)
    let y13 : (Int × Int) := (x.1, y12)
    .need (pre35 y13) <|
    let y14 : Int := (fn21 y11)
    let y15 : Bool := (ine y14 0)
    let y16 : (Bool × (Bool × (Bool × Bool))) := (fn35 y13).2
    let y17 : Bool := y16.1
    let y18 : (Bool × (Bool × Bool)) := y16.2
    let y19 : Bool := y18.1
    let y20 : Bool := y18.2.2
    .ret (y12, (y14, (y15, (y17, (y19, (y15, y20))))))) (
    let y21 : (Int × Int) := (fn55 y2)
    let y22 : Int := y21.2
    let y23 : (Int × Int) := (y22, x.1)
    .need (pre21 y23) <|
    let y24 : Int := y21.1
    let y25 : (Int × Int) := (y24, x.1)
    .need (pre21 y25) <|
    let y26 : Int := (fn21 y23)
    let y27 : (Int × Int) := (x.1, y26)
    .need (pre35 y27) <|
    let y28 : Int := (fn21 y25)
    let y29 : Bool := (ine y28 0)
    let y30 : (Bool × (Bool × (Bool × Bool))) := (fn35 y27).2
    let y31 : Bool := y30.1
    let y32 : (Bool × (Bool × Bool)) := y30.2
    let y33 : Bool := y32.1
    let y34 : Bool := y32.2.2
    .ret (y26, (y28, (y29, (y31, (y33, (y29, y34)))))))
noncomputable def fn43 (x : (Int × (Int × Int))) : (Int × (Int × (Bool × (Bool × (Bool × (Bool × Bool)))))) := (tree43 x).val
def pre43 (x : (Int × (Int × Int))) : Prop := (tree43 x).ok
noncomputable def spec43 : Spec := { dom := (.st (.int .i64) (.st (.int .u64) (.st1 (.int .u64)))), cod := (.st (.int .u64) (.st (.int .u64) (.st1 (.st .bool (.st .bool (.st .bool (.st .bool (.st1 .bool)))))))), n := 3, pre := pre43, f := fn43 }
theorem run43 (W : Cfg) (Q : (Int × (Int × (Bool × (Bool × (Bool × (Bool × Bool)))))) → Prop) (x : (Int × (Int × Int))) : run (env tab41 (fun _ _ => none)) (fun _ _ _ => none) (fun v _ => finQ 3 (.st (.int .u64) (.st (.int .u64) (.st1 (.st .bool (.st .bool (.st .bool (.st .bool (.st1 .bool)))))))) Q v) W 100000 (startFr 43 Tryd.f43 (bodyOf Tryd.f43) (argsOf (.st (.int .i64) (.st (.int .u64) (.st1 (.int .u64)))) x)) [] [] = (tree43 x).wp Q := by kernel_rfl
theorem ok43 : SpecOk env0 43 spec43 := SpecOk.env rfl (fun _ _ h => h) (spec_of_tree (E := (env tab41 (fun _ _ => none))) (sp := spec43) (valid _ _) (fun f sp h => SpecOk.env rfl (fun _ _ h => h) (tab41_ok f sp h)) (fn := Tryd.f43) (c := (bodyOf Tryd.f43)) (by kernel_rfl) (by kernel_rfl) tree43 run43 (fun _ h => Tr.gives_val h))

noncomputable def tab43 : FuncId → Option Spec
  | 43 => some spec43
  | f => tab41 f
theorem tab43_ok : ∀ f sp, tab43 f = some sp → SpecOk env0 f sp := by
  intro f sp h
  unfold tab43 at h
  split at h
  · cases h; exact ok43
  · exact tab41_ok f sp h

/-! ### sundial/sundialref13.Imul -/
noncomputable def tree42 (x : (Int × (Int × Int))) : Tr (Int × (Bool × (Bool × (Bool × (Bool × Bool))))) :=
  let y0 : (Int × Int) := (x.2.1, x.1)
  .need (pre21 y0) <|
  let y1 : (Int × Int) := (x.2.2, x.1)
  .need (pre21 y1) <|
  let y2 : Int := (fn21 y0)
  let y3 : (Int × Int) := (y2, x.1)
  .need (pre59 y3) <|
  let y4 : Int := (fn21 y1)
  let y5 : (Int × Int) := (y4, x.1)
  .need (pre59 y5) <|
  .need (pre59 y3) <|
  let y6 : Bool := (fn59 y3)
  .ite y6 (
    let y7 : (Int × Int) := ((ineg .u64 y2), x.1)
    .need (pre21 y7) <|
    .need (pre59 y5) <|
    let y8 : Bool := (fn59 y5)
    .ite y8 (
      let y9 : (Int × Int) := ((ineg .u64 y4), x.1)
      .need (pre21 y9) <|
      let y10 : Int := (fn21 y7)
      let y11 : Int := (fn21 y9)
      let y12 : (Int × (Int × Int)) := (x.1, (y10, y11))
      .need (pre43 y12) <|
      let y13 : Int := (iconv .u64 (isub .i64 (imul .i64 8 (imin (imax x.1 1) 8)) 1))
      .need ((0 : Int) ≤ y13) <|
      let y14 : (Int × (Int × (Bool × (Bool × (Bool × (Bool × Bool)))))) := (fn43 y12)
      .ite ((ieq y14.2.1 0) == true) (
        let y15 : Int := y14.1
        let y16 : Int := (ishl .u64 1 y13)
        .ite ((ilt y15 y16) == false) (
          let y17 : Bool := (!(y6 == y8))
          let y18 : Bool := (y17 == true)
          .ite y18 (
            .ite y17 (
              let y19 : (Int × Int) := ((ineg .u64 y15), x.1)
              .need (pre21 y19) <|
              let y20 : Int := (fn21 y19)
              let y21 : (Int × Int) := (x.1, y20)
              .need (pre35 y21) <|
              let y22 : Bool := (!(ieq y15 y16))
              let y23 : (Bool × (Bool × (Bool × Bool))) := (fn35 y21).2
              let y24 : Bool := y23.1
              let y25 : (Bool × (Bool × Bool)) := y23.2
              let y26 : Bool := y25.1
              let y27 : Bool := y25.2.2
              .ret (y20, (y22, (y24, (y26, (y22, y27)))))) (
              let y28 : (Int × Int) := (x.1, y15)
              .need (pre35 y28) <|
              let y29 : Bool := (!(ieq y15 y16))
              let y30 : (Bool × (Bool × (Bool × Bool))) := (fn35 y28).2
              let y31 : Bool := y30.1
              let y32 : (Bool × (Bool × Bool)) := y30.2
              let y33 : Bool := y32.1
              let y34 : Bool := y32.2.2
              .ret (y15, (y29, (y31, (y33, (y29, y34))))))) (
            .ite y17 (
              let y35 : (Int × Int) := ((ineg .u64 y15), x.1)
              .need (pre21 y35) <|
              let y36 : Int := (fn21 y35)
              let y37 : (Int × Int) := (x.1, y36)
              .need (pre35 y37) <|
              let y38 : (Bool × (Bool × (Bool × Bool))) := (fn35 y37).2
              let y39 : Bool := y38.1
              let y40 : (Bool × (Bool × Bool)) := y38.2
              let y41 : Bool := y40.1
              let y42 : Bool := y40.2.2
              let y43 : (Int × (Bool × (Bool × (Bool × (Bool × Bool))))) := (y36, (true, (y39, (y41, (true, y42)))))
              .ret y43) (
              let y44 : (Int × Int) := (x.1, y15)
              .need (pre35 y44) <|
              let y45 : (Bool × (Bool × (Bool × Bool))) := (fn35 y44).2
              let y46 : Bool := y45.1
              let y47 : (Bool × (Bool × Bool)) := y45.2
              let y48 : Bool := y47.1
              let y49 : Bool := y47.2.2
              let y50 : (Int × (Bool × (Bool × (Bool × (Bool × Bool))))) := (y15, (true, (y46, (y48, (true, y49)))))
              .ret y50))) (
          let y51 : Bool := (!(y6 == y8))
          .ite y51 (
            let y52 : (Int × Int) := ((ineg .u64 y15), x.1)
            .need (pre21 y52) <|
            let y53 : Int := (fn21 y52)
            let y54 : (Int × Int) := (x.1, y53)
            .need (pre35 y54) <|
            let y55 : (Bool × (Bool × (Bool × Bool))) := (fn35 y54).2
            let y56 : Bool := y55.1
            let y57 : (Bool × (Bool × Bool)) := y55.2
            let y58 : Bool := y57.1
            let y59 : Bool := y57.2.2
            .ret (y53, (false, (y56, (y58, (false, y59)))))) (
            let y60 : (Int × Int) := (x.1, y15)
            .need (pre35 y60) <|
            let y61 : (Bool × (Bool × (Bool × Bool))) := (fn35 y60).2
            let y62 : Bool := y61.1
            let y63 : (Bool × (Bool × Bool)) := y61.2
            let y64 : Bool := y63.1
            let y65 : Bool := y63.2.2
            .ret (y15, (false, (y62, (y64, (false, y65)))))))) (
        let y66 : Bool := (!(y6 == y8))
        .ite y66 (
          let y67 : Int := y14.1
          let y68 : (Int × Int) := ((ineg .u64 y67), x.1)
          .need (pre21 y68) <|
          let y69 : Int := (fn21 y68)
          let y70 : (Int × Int) := (x.1, y69)
          .need (pre35 y70) <|
          let y71 : (Bool × (Bool × (Bool × Bool))) := (fn35 y70).2
          let y72 : Bool := y71.1
          let y73 : (Bool × (Bool × Bool)) := y71.2
          let y74 : Bool := y73.1
          let y75 : Bool := y73.2.2
          let y76 : (Int × (Bool × (Bool × (Bool × (Bool × Bool))))) := (y69, (true, (y72, (y74, (true, y75)))))
          .ret y76) (
          let y77 : Int := y14.1
          let y78 : (Int × Int) := (x.1, y77)
          .need (pre35 y78) <|
          let y79 : (Bool × (Bool × (Bool × Bool))) := (fn35 y78).2
          let y80 : Bool := y79.1
          let y81 : (Bool × (Bool × Bool)) := y79.2
          let y82 : Bool := y81.1
          let y83 : Bool := y81.2.2
          let y84 : (Int × (Bool × (Bool × (Bool × (Bool × Bool))))) := (y77, (true, (y80, (y82, (true, y83)))))
          .ret y84))) (
      let y85 : Int := (fn21 y7)
      let y86 : (Int × (Int × Int)) := (x.1, (y85, y4))
      .need (pre43 y86) <|
      let y87 : Int := (iconv .u64 (isub .i64 (imul .i64 8 (imin (imax x.1 1) 8)) 1))
      .need ((0 : Int) ≤ y87) <|
      let y88 : (Int × (Int × (Bool × (Bool × (Bool × (Bool × Bool)))))) := (fn43 y86)
      .ite ((ieq y88.2.1 0) == true) (
        let y89 : Int := y88.1
        let y90 : Int := (ishl .u64 1 y87)
        .ite ((ilt y89 y90) == false) (
          let y91 : Bool := (!(y6 == y8))
          let y92 : Bool := (y91 == true)
          .ite y92 (
            .ite y91 (
              let y93 : (Int × Int) := ((ineg .u64 y89), x.1)
              .need (pre21 y93) <|
              let y94 : Int := (fn21 y93)
              let y95 : (Int × Int) := (x.1, y94)
              .need (pre35 y95) <|
              let y96 : Bool := (!(ieq y89 y90))
              let y97 : (Bool × (Bool × (Bool × Bool))) := (fn35 y95).2
              let y98 : Bool := y97.1
              let y99 : (Bool × (Bool × Bool)) := y97.2
              let y100 : Bool := y99.1
              let y101 : Bool := y99.2.2
              .ret (y94, (y96, (y98, (y100, (y96, y101)))))) (
              let y102 : (Int × Int) := (x.1, y89)
              .need (pre35 y102) <|
              let y103 : Bool := (!(ieq y89 y90))
              let y104 : (Bool × (Bool × (Bool × Bool))) := (fn35 y102).2
              let y105 : Bool := y104.1
              let y106 : (Bool × (Bool × Bool)) := y104.2
              let y107 : Bool := y106.1
              let y108 : Bool := y106.2.2
              .ret (y89, (y103, (y105, (y107, (y103, y108))))))) (
            .ite y91 (
              let y109 : (Int × Int) := ((ineg .u64 y89), x.1)
              .need (pre21 y109) <|
              let y110 : Int := (fn21 y109)
              let y111 : (Int × Int) := (x.1, y110)
              .need (pre35 y111) <|
              let y112 : (Bool × (Bool × (Bool × Bool))) := (fn35 y111).2
              let y113 : Bool := y112.1
              let y114 : (Bool × (Bool × Bool)) := y112.2
              let y115 : Bool := y114.1
              let y116 : Bool := y114.2.2
              let y117 : (Int × (Bool × (Bool × (Bool × (Bool × Bool))))) := (y110, (true, (y113, (y115, (true, y116)))))
              .ret y117) (
              let y118 : (Int × Int) := (x.1, y89)
              .need (pre35 y118) <|
              let y119 : (Bool × (Bool × (Bool × Bool))) := (fn35 y118).2
              let y120 : Bool := y119.1
              let y121 : (Bool × (Bool × Bool)) := y119.2
              let y122 : Bool := y121.1
              let y123 : Bool := y121.2.2
              let y124 : (Int × (Bool × (Bool × (Bool × (Bool × Bool))))) := (y89, (true, (y120, (y122, (true, y123)))))
              .ret y124))) (
          let y125 : Bool := (!(y6 == y8))
          .ite y125 (
            let y126 : (Int × Int) := ((ineg .u64 y89), x.1)
            .need (pre21 y126) <|
            let y127 : Int := (fn21 y126)
            let y128 : (Int × Int) := (x.1, y127)
            .need (pre35 y128) <|
            let y129 : (Bool × (Bool × (Bool × Bool))) := (fn35 y128).2
            let y130 : Bool := y129.1
            let y131 : (Bool × (Bool × Bool)) := y129.2
            let y132 : Bool := y131.1
            let y133 : Bool := y131.2.2
            .ret (y127, (false, (y130, (y132, (false, y133)))))) (
            let y134 : (Int × Int) := (x.1, y89)
            .need (pre35 y134) <|
            let y135 : (Bool × (Bool × (Bool × Bool))) := (fn35 y134).2
            let y136 : Bool := y135.1
            let y137 : (Bool × (Bool × Bool)) := y135.2
            let y138 : Bool := y137.1
            let y139 : Bool := y137.2.2
            .ret (y89, (false, (y136, (y138, (false, y139)))))))) (
        let y140 : Bool := (!(y6 == y8))
        .ite y140 (
          let y141 : Int := y88.1
          let y142 : (Int × Int) := ((ineg .u64 y141), x.1)
          .need (pre21 y142) <|
          let y143 : Int := (fn21 y142)
          let y144 : (Int × Int) := (x.1, y143)
          .need (pre35 y144) <|
          let y145 : (Bool × (Bool × (Bool × Bool))) := (fn35 y144).2
          let y146 : Bool := y145.1
          let y147 : (Bool × (Bool × Bool)) := y145.2
          let y148 : Bool := y147.1
          let y149 : Bool := y147.2.2
          let y150 : (Int × (Bool × (Bool × (Bool × (Bool × Bool))))) := (y143, (true, (y146, (y148, (true, y149)))))
          .ret y150) (
          let y151 : Int := y88.1
          let y152 : (Int × Int) := (x.1, y151)
          .need (pre35 y152) <|
          let y153 : (Bool × (Bool × (Bool × Bool))) := (fn35 y152).2
          let y154 : Bool := y153.1
          let y155 : (Bool × (Bool × Bool)) := y153.2
          let y156 : Bool := y155.1
          let y157 : Bool := y155.2.2
          let y158 : (Int × (Bool × (Bool × (Bool × (Bool × Bool))))) := (y151, (true, (y154, (y156, (true, y157)))))
          .ret y158)))) (
    .need (pre59 y5) <|
    let y159 : Bool := (fn59 y5)
    .ite y159 (
      let y160 : (Int × Int) := ((ineg .u64 y4), x.1)
      .need (pre21 y160) <|
      let y161 : Int := (fn21 y160)
      let y162 : (Int × (Int × Int)) := (x.1, (y2, y161))
      .need (pre43 y162) <|
      let y163 : Int := (iconv .u64 (isub .i64 (imul .i64 8 (imin (imax x.1 1) 8)) 1))
      .need ((0 : Int) ≤ y163) <|
      let y164 : (Int × (Int × (Bool × (Bool × (Bool × (Bool × Bool)))))) := (fn43 y162)
      .ite ((ieq y164.2.1 0) == true) (
        let y165 : Int := y164.1
        let y166 : Int := (ishl .u64 1 y163)
        .ite ((ilt y165 y166) == false) (
          let y167 : Bool := (!(y6 == y159))
          let y168 : Bool := (y167 == true)
          .ite y168 (
            .ite y167 (
              let y169 : (Int × Int) := ((ineg .u64 y165), x.1)
              .need (pre21 y169) <|
              let y170 : Int := (fn21 y169)
              let y171 : (Int × Int) := (x.1, y170)
              .need (pre35 y171) <|
              let y172 : Bool := (!(ieq y165 y166))
              let y173 : (Bool × (Bool × (Bool × Bool))) := (fn35 y171).2
              let y174 : Bool := y173.1
              let y175 : (Bool × (Bool × Bool)) := y173.2
              let y176 : Bool := y175.1
              let y177 : Bool := y175.2.2
              .ret (y170, (y172, (y174, (y176, (y172, y177)))))) (
              let y178 : (Int × Int) := (x.1, y165)
              .need (pre35 y178) <|
              let y179 : Bool := (!(ieq y165 y166))
              let y180 : (Bool × (Bool × (Bool × Bool))) := (fn35 y178).2
              let y181 : Bool := y180.1
              let y182 : (Bool × (Bool × Bool)) := y180.2
              let y183 : Bool := y182.1
              let y184 : Bool := y182.2.2
              .ret (y165, (y179, (y181, (y183, (y179, y184))))))) (
            .ite y167 (
              let y185 : (Int × Int) := ((ineg .u64 y165), x.1)
              .need (pre21 y185) <|
              let y186 : Int := (fn21 y185)
              let y187 : (Int × Int) := (x.1, y186)
              .need (pre35 y187) <|
              let y188 : (Bool × (Bool × (Bool × Bool))) := (fn35 y187).2
              let y189 : Bool := y188.1
              let y190 : (Bool × (Bool × Bool)) := y188.2
              let y191 : Bool := y190.1
              let y192 : Bool := y190.2.2
              let y193 : (Int × (Bool × (Bool × (Bool × (Bool × Bool))))) := (y186, (true, (y189, (y191, (true, y192)))))
              .ret y193) (
              let y194 : (Int × Int) := (x.1, y165)
              .need (pre35 y194) <|
              let y195 : (Bool × (Bool × (Bool × Bool))) := (fn35 y194).2
              let y196 : Bool := y195.1
              let y197 : (Bool × (Bool × Bool)) := y195.2
              let y198 : Bool := y197.1
              let y199 : Bool := y197.2.2
              let y200 : (Int × (Bool × (Bool × (Bool × (Bool × Bool))))) := (y165, (true, (y196, (y198, (true, y199)))))
              .ret y200))) (
          let y201 : Bool := (!(y6 == y159))
          .ite y201 (
            let y202 : (Int × Int) := ((ineg .u64 y165), x.1)
            .need (pre21 y202) <|
            let y203 : Int := (fn21 y202)
            let y204 : (Int × Int) := (x.1, y203)
            .need (pre35 y204) <|
            let y205 : (Bool × (Bool × (Bool × Bool))) := (fn35 y204).2
            let y206 : Bool := y205.1
            let y207 : (Bool × (Bool × Bool)) := y205.2
            let y208 : Bool := y207.1
            let y209 : Bool := y207.2.2
            .ret (y203, (false, (y206, (y208, (false, y209)))))) (
            let y210 : (Int × Int) := (x.1, y165)
            .need (pre35 y210) <|
            let y211 : (Bool × (Bool × (Bool × Bool))) := (fn35 y210).2
            let y212 : Bool := y211.1
            let y213 : (Bool × (Bool × Bool)) := y211.2
            let y214 : Bool := y213.1
            let y215 : Bool := y213.2.2
            .ret (y165, (false, (y212, (y214, (false, y215)))))))) (
        let y216 : Bool := (!(y6 == y159))
        .ite y216 (
          let y217 : Int := y164.1
          let y218 : (Int × Int) := ((ineg .u64 y217), x.1)
          .need (pre21 y218) <|
          let y219 : Int := (fn21 y218)
          let y220 : (Int × Int) := (x.1, y219)
          .need (pre35 y220) <|
          let y221 : (Bool × (Bool × (Bool × Bool))) := (fn35 y220).2
          let y222 : Bool := y221.1
          let y223 : (Bool × (Bool × Bool)) := y221.2
          let y224 : Bool := y223.1
          let y225 : Bool := y223.2.2
          let y226 : (Int × (Bool × (Bool × (Bool × (Bool × Bool))))) := (y219, (true, (y222, (y224, (true, y225)))))
          .ret y226) (
          let y227 : Int := y164.1
          let y228 : (Int × Int) := (x.1, y227)
          .need (pre35 y228) <|
          let y229 : (Bool × (Bool × (Bool × Bool))) := (fn35 y228).2
          let y230 : Bool := y229.1
          let y231 : (Bool × (Bool × Bool)) := y229.2
          let y232 : Bool := y231.1
          let y233 : Bool := y231.2.2
          let y234 : (Int × (Bool × (Bool × (Bool × (Bool × Bool))))) := (y227, (true, (y230, (y232, (true, y233)))))
          .ret y234))) (
      let y235 : (Int × (Int × Int)) := (x.1, (y2, y4))
      .need (pre43 y235) <|
      let y236 : Int := (iconv .u64 (isub .i64 (imul .i64 8 (imin (imax x.1 1) 8)) 1))
      .need ((0 : Int) ≤ y236) <|
      let y237 : (Int × (Int × (Bool × (Bool × (Bool × (Bool × Bool)))))) := (fn43 y235)
      .ite ((ieq y237.2.1 0) == true) (
        let y238 : Int := y237.1
        let y239 : Int := (ishl .u64 1 y236)
        .ite ((ilt y238 y239) == false) (
          let y240 : Bool := (!(y6 == y159))
          let y241 : Bool := (y240 == true)
          .ite y241 (
            .ite y240 (
              let y242 : (Int × Int) := ((ineg .u64 y238), x.1)
              .need (pre21 y242) <|
              let y243 : Int := (fn21 y242)
              let y244 : (Int × Int) := (x.1, y243)
              .need (pre35 y244) <|
              let y245 : Bool := (!(ieq y238 y239))
              let y246 : (Bool × (Bool × (Bool × Bool))) := (fn35 y244).2
              let y247 : Bool := y246.1
              let y248 : (Bool × (Bool × Bool)) := y246.2
              let y249 : Bool := y248.1
              let y250 : Bool := y248.2.2
              .ret (y243, (y245, (y247, (y249, (y245, y250)))))) (
              let y251 : (Int × Int) := (x.1, y238)
              .need (pre35 y251) <|
              let y252 : Bool := (!(ieq y238 y239))
              let y253 : (Bool × (Bool × (Bool × Bool))) := (fn35 y251).2
              let y254 : Bool := y253.1
              let y255 : (Bool × (Bool × Bool)) := y253.2
              let y256 : Bool := y255.1
              let y257 : Bool := y255.2.2
              .ret (y238, (y252, (y254, (y256, (y252, y257))))))) (
            .ite y240 (
              let y258 : (Int × Int) := ((ineg .u64 y238), x.1)
              .need (pre21 y258) <|
              let y259 : Int := (fn21 y258)
              let y260 : (Int × Int) := (x.1, y259)
              .need (pre35 y260) <|
              let y261 : (Bool × (Bool × (Bool × Bool))) := (fn35 y260).2
              let y262 : Bool := y261.1
              let y263 : (Bool × (Bool × Bool)) := y261.2
              let y264 : Bool := y263.1
              let y265 : Bool := y263.2.2
              let y266 : (Int × (Bool × (Bool × (Bool × (Bool × Bool))))) := (y259, (true, (y262, (y264, (true, y265)))))
              .ret y266) (
              let y267 : (Int × Int) := (x.1, y238)
              .need (pre35 y267) <|
              let y268 : (Bool × (Bool × (Bool × Bool))) := (fn35 y267).2
              let y269 : Bool := y268.1
              let y270 : (Bool × (Bool × Bool)) := y268.2
              let y271 : Bool := y270.1
              let y272 : Bool := y270.2.2
              let y273 : (Int × (Bool × (Bool × (Bool × (Bool × Bool))))) := (y238, (true, (y269, (y271, (true, y272)))))
              .ret y273))) (
          let y274 : Bool := (!(y6 == y159))
          .ite y274 (
            let y275 : (Int × Int) := ((ineg .u64 y238), x.1)
            .need (pre21 y275) <|
            let y276 : Int := (fn21 y275)
            let y277 : (Int × Int) := (x.1, y276)
            .need (pre35 y277) <|
            let y278 : (Bool × (Bool × (Bool × Bool))) := (fn35 y277).2
            let y279 : Bool := y278.1
            let y280 : (Bool × (Bool × Bool)) := y278.2
            let y281 : Bool := y280.1
            let y282 : Bool := y280.2.2
            .ret (y276, (false, (y279, (y281, (false, y282)))))) (
            let y283 : (Int × Int) := (x.1, y238)
            .need (pre35 y283) <|
            let y284 : (Bool × (Bool × (Bool × Bool))) := (fn35 y283).2
            let y285 : Bool := y284.1
            let y286 : (Bool × (Bool × Bool)) := y284.2
            let y287 : Bool := y286.1
            let y288 : Bool := y286.2.2
            .ret (y238, (false, (y285, (y287, (false, y288)))))))) (
        let y289 : Bool := (!(y6 == y159))
        .ite y289 (
          let y290 : Int := y237.1
          let y291 : (Int × Int) := ((ineg .u64 y290), x.1)
          .need (pre21 y291) <|
          let y292 : Int := (fn21 y291)
          let y293 : (Int × Int) := (x.1, y292)
          .need (pre35 y293) <|
          let y294 : (Bool × (Bool × (Bool × Bool))) := (fn35 y293).2
          let y295 : Bool := y294.1
          let y296 : (Bool × (Bool × Bool)) := y294.2
          let y297 : Bool := y296.1
          let y298 : Bool := y296.2.2
          let y299 : (Int × (Bool × (Bool × (Bool × (Bool × Bool))))) := (y292, (true, (y295, (y297, (true, y298)))))
          .ret y299) (
          let y300 : Int := y237.1
          let y301 : (Int × Int) := (x.1, y300)
          .need (pre35 y301) <|
          let y302 : (Bool × (Bool × (Bool × Bool))) := (fn35 y301).2
          let y303 : Bool := y302.1
          let y304 : (Bool × (Bool × Bool)) := y302.2
          let y305 : Bool := y304.1
          let y306 : Bool := y304.2.2
          let y307 : (Int × (Bool × (Bool × (Bool × (Bool × Bool))))) := (y300, (true, (y303, (y305, (true, y306)))))
          .ret y307))))
noncomputable def fn42 (x : (Int × (Int × Int))) : (Int × (Bool × (Bool × (Bool × (Bool × Bool))))) := (tree42 x).val
def pre42 (x : (Int × (Int × Int))) : Prop := (tree42 x).ok
noncomputable def spec42 : Spec := { dom := (.st (.int .i64) (.st (.int .u64) (.st1 (.int .u64)))), cod := (.st (.int .u64) (.st1 (.st .bool (.st .bool (.st .bool (.st .bool (.st1 .bool))))))), n := 2, pre := pre42, f := fn42 }
theorem run42 (W : Cfg) (Q : (Int × (Bool × (Bool × (Bool × (Bool × Bool))))) → Prop) (x : (Int × (Int × Int))) : run (env tab43 (fun _ _ => none)) (fun _ _ _ => none) (fun v _ => finQ 2 (.st (.int .u64) (.st1 (.st .bool (.st .bool (.st .bool (.st .bool (.st1 .bool))))))) Q v) W 100000 (startFr 42 Tryd.f42 (bodyOf Tryd.f42) (argsOf (.st (.int .i64) (.st (.int .u64) (.st1 (.int .u64)))) x)) [] [] = (tree42 x).wp Q := by kernel_rfl
theorem ok42 : SpecOk env0 42 spec42 := SpecOk.env rfl (fun _ _ h => h) (spec_of_tree (E := (env tab43 (fun _ _ => none))) (sp := spec42) (valid _ _) (fun f sp h => SpecOk.env rfl (fun _ _ h => h) (tab43_ok f sp h)) (fn := Tryd.f42) (c := (bodyOf Tryd.f42)) (by kernel_rfl) (by kernel_rfl) tree42 run42 (fun _ h => Tr.gives_val h))

noncomputable def tab42 : FuncId → Option Spec
  | 42 => some spec42
  | f => tab43 f
theorem tab42_ok : ∀ f sp, tab42 f = some sp → SpecOk env0 f sp := by
  intro f sp h
  unfold tab42 at h
  split at h
  · cases h; exact ok42
  · exact tab43_ok f sp h

/-! ### sundial/sundialref13.Div -/
inductive J44 where
  | h0 (v0 : Int) (v1 : Int) (v2 : Int) (v3 : Int) (v4 : Int)
noncomputable def tree44 (x : (Int × (Int × (Int × Int)))) : Tr (J44 ⊕ (Int × (Int × Bool))) :=
  let y0 : (Int × Int) := (x.2.1, x.1)
  .need (pre21 y0) <|
  let y1 : (Int × Int) := x.2.2
  let y2 : (Int × Int) := (y1.1, x.1)
  .need (pre21 y2) <|
  let y3 : (Int × Int) := (y1.2, x.1)
  .need (pre21 y3) <|
  let y4 : Int := (fn21 y3)
  .ite ((ieq y4 0) == false) (
    let y5 : Int := (fn21 y0)
    .ite (ile y4 y5) (
      let y6 : (Int × (Int × Bool)) := (0, (0, false))
      .ret (.inr y6)) (
      .ret (.inl (.h0 (fn21 y2) y4 0 y5 (isub .i64 (imul .i64 8 (imin (imax x.1 1) 8)) 1))))) (
    let y7 : (Int × (Int × Bool)) := (0, (0, false))
    .ret (.inr y7))
noncomputable def step44 (_x : (Int × (Int × (Int × Int)))) : J44 → Tr (J44 ⊕ (Int × (Int × Bool)))
  | .h0 v0 v1 v2 v3 v4 =>
    .ite (ile 0 v4) (
      .need ((0 : Int) ≤ 63) <|
      .need ((0 : Int) ≤ 1) <|
      .need ((0 : Int) ≤ (iconv .u64 v4)) <|
      .ite ((ieq (ishr .u64 v3 63) 1) == false) (
        let y0 : Int := (ior .u64 (ishl .u64 v3 1) (iand .u64 (ishr .u64 v0 (iconv .u64 v4)) 1))
        .ite (ile v1 y0) (
          .need ((0 : Int) ≤ (iconv .u64 v4)) <|
          let y1 : Int := (ior .u64 v2 (ishl .u64 1 (iconv .u64 v4)))
          let y2 : Int := (isub .u64 y0 v1)
          let y3 : Int := (isub .i64 v4 1)
          .ret (.inl (.h0 v0 v1 y1 y2 y3))) (
          let y4 : Int := (isub .i64 v4 1)
          .ret (.inl (.h0 v0 v1 v2 y0 y4)))) (
        .need ((0 : Int) ≤ (iconv .u64 v4)) <|
        let y5 : Int := (ior .u64 v2 (ishl .u64 1 (iconv .u64 v4)))
        let y6 : Int := (ior .u64 (ishl .u64 v3 1) (iand .u64 (ishr .u64 v0 (iconv .u64 v4)) 1))
        let y7 : Int := (isub .u64 y6 v1)
        let y8 : Int := (isub .i64 v4 1)
        .ret (.inl (.h0 v0 v1 y5 y7 y8)))) (
      .ret (.inr (v2, (v3, true))))
noncomputable def head44 (_x : (Int × (Int × (Int × Int)))) : J44 → Head
  | .h0 v0 v1 v2 v3 v4 =>
    { fr := { id := 44, kind := .top, T := [.any, .any, (.int .u64 v0), (.int .u64 v1)] ++ List.replicate 8 .any ++ [(.int .u64 v2), (.int .u64 v3), (.int .i64 v4)] ++ List.replicate 55 .any, items := [.lp (subc [1, 1, 1, 1, 1, 0, 1, 0, 0] (bodyOf Tryd.f44)), .blk 0, .code (subc [1, 1, 1, 1, 1, 1] (bodyOf Tryd.f44))], D := [], base := 0 },
      stk := [],
      H := [] }
noncomputable def stop44 : FuncId → Nat → Nat → Option Cut
  | 44, 0, 0 => some { tmps := [2, 3, 12, 13, 14], loops := [], dead := [] }
  | _, _, _ => none
noncomputable def fn44 (x : (Int × (Int × (Int × Int)))) : (Int × (Int × Bool)) := endVal (TC.dflt (.st (.int .u64) (.st (.int .u64) (.st1 .bool)))) (step44 x) (tree44 x)
def pre44 (x : (Int × (Int × (Int × Int)))) : Prop := ∃ r, Ends (step44 x) r (tree44 x)
noncomputable def spec44 : Spec := { dom := (.st (.int .i64) (.st (.int .u64) (.st (.int .u64) (.st1 (.int .u64))))), cod := (.st (.int .u64) (.st (.int .u64) (.st1 .bool))), n := 3, pre := pre44, f := fn44 }
theorem run44 (W : Cfg) (Q : (Int × (Int × Bool)) → Prop) (x : (Int × (Int × (Int × Int)))) : run (env tab42 (fun _ _ => none)) stop44 (fun v _ => finQ 3 (.st (.int .u64) (.st (.int .u64) (.st1 .bool))) Q v) W 100000 (startFr 44 Tryd.f44 (bodyOf Tryd.f44) (argsOf (.st (.int .i64) (.st (.int .u64) (.st (.int .u64) (.st1 (.int .u64))))) x)) [] [] = (tree44 x).wp (kont W Q (head44 x)) := by kernel_rfl
theorem run44h0 (W : Cfg) (Q : (Int × (Int × Bool)) → Prop) (x : (Int × (Int × (Int × Int)))) (v0 : Int) (v1 : Int) (v2 : Int) (v3 : Int) (v4 : Int) : run (env tab42 (fun _ _ => none)) stop44 (fun v _ => finQ 3 (.st (.int .u64) (.st (.int .u64) (.st1 .bool))) Q v) W 100000 (head44 x (.h0 v0 v1 v2 v3 v4)).fr.enter (head44 x (.h0 v0 v1 v2 v3 v4)).stk (head44 x (.h0 v0 v1 v2 v3 v4)).H = (step44 x (.h0 v0 v1 v2 v3 v4)).wp (kont W Q (head44 x)) := by kernel_rfl
theorem runs44 (W : Cfg) (Q : (Int × (Int × Bool)) → Prop) (x : (Int × (Int × (Int × Int)))) : ∀ j : J44, run (env tab42 (fun _ _ => none)) stop44 (fun v _ => finQ 3 (.st (.int .u64) (.st (.int .u64) (.st1 .bool))) Q v) W 100000 (head44 x j).fr.enter (head44 x j).stk (head44 x j).H = (step44 x j).wp (kont W Q (head44 x))
  | .h0 v0 v1 v2 v3 v4 => run44h0 W Q x v0 v1 v2 v3 v4
theorem ok44 : SpecOk env0 44 spec44 := SpecOk.env rfl (fun _ _ h => h) (spec_of_trees (E := (env tab42 (fun _ _ => none))) (sp := spec44) (valid _ _) (fun f sp h => SpecOk.env rfl (fun _ _ h => h) (tab42_ok f sp h)) (fn := Tryd.f44) (c := (bodyOf Tryd.f44)) (by kernel_rfl) (by kernel_rfl) tree44 step44 head44 run44 runs44 (fun _ h => endVal_ends h))

noncomputable def tab44 : FuncId → Option Spec
  | 44 => some spec44
  | f => tab42 f
theorem tab44_ok : ∀ f sp, tab44 f = some sp → SpecOk env0 f sp := by
  intro f sp h
  unfold tab44 at h
  split at h
  · cases h; exact ok44
  · exact tab42_ok f sp h

/-! ### sundial/sundiallaw13.AluTells -/
noncomputable def tree11 (x : (Int × (Int × (Int × (Int × (Int × (Bool × (Int × (Bool × (Bool × (Bool × (Bool × Bool)))))))))))) : Tr Bool :=
  let y0 : Int := x.2.1
  let y1 : (Int × (Int × (Int × (Bool × (Int × (Bool × (Bool × (Bool × (Bool × Bool))))))))) := x.2.2
  let y2 : Int := y1.1
  let y3 : (Int × (Int × (Bool × (Int × (Bool × (Bool × (Bool × (Bool × Bool)))))))) := y1.2
  let y4 : Int := y3.1
  let y5 : (Int × (Bool × (Int × (Bool × (Bool × (Bool × (Bool × Bool))))))) := y3.2
  let y6 : (Bool × (Int × (Bool × (Bool × (Bool × (Bool × Bool)))))) := y5.2
  let y7 : (Int × (Int × (Int × Bool))) := (y0, (y2, (y4, y6.1)))
  .need (pre27 y7) <|
  .need (pre32 y7) <|
  .need (pre26 y7) <|
  .need (pre33 y7) <|
  let y8 : (Int × (Bool × (Bool × (Bool × (Bool × Bool))))) := (fn27 y7)
  let y9 : (Int × (Bool × (Bool × (Bool × (Bool × Bool))))) := (fn32 y7)
  .ite ((ine y8.1 y9.1) == false) (
    let y10 : (Bool × (Bool × (Bool × (Bool × Bool)))) := y8.2
    let y11 : (Bool × (Bool × (Bool × (Bool × Bool)))) := y9.2
    let y12 : (Bool × (Bool × (Bool × Bool))) := y10.2
    let y13 : (Bool × (Bool × (Bool × Bool))) := y11.2
    let y14 : (Bool × (Bool × Bool)) := y12.2
    let y15 : (Bool × (Bool × Bool)) := y13.2
    let y16 : (Bool × Bool) := y14.2
    let y17 : (Bool × Bool) := y15.2
    .ite ((!((y10.1 == y11.1) && ((y12.1 == y13.1) && ((y14.1 == y15.1) && ((y16.1 == y17.1) && ((y16.2 == y17.2) && true)))))) == false) (
      let y18 : (Int × (Bool × (Bool × (Bool × (Bool × Bool))))) := (fn26 y7)
      let y19 : (Int × (Bool × (Bool × (Bool × (Bool × Bool))))) := (fn33 y7)
      .ite ((ine y18.1 y19.1) == false) (
        let y20 : (Bool × (Bool × (Bool × (Bool × Bool)))) := y18.2
        let y21 : (Bool × (Bool × (Bool × (Bool × Bool)))) := y19.2
        let y22 : (Bool × (Bool × (Bool × Bool))) := y20.2
        let y23 : (Bool × (Bool × (Bool × Bool))) := y21.2
        let y24 : (Bool × (Bool × Bool)) := y22.2
        let y25 : (Bool × (Bool × Bool)) := y23.2
        let y26 : (Bool × Bool) := y24.2
        let y27 : (Bool × Bool) := y25.2
        .ite ((!((y20.1 == y21.1) && ((y22.1 == y23.1) && ((y24.1 == y25.1) && ((y26.1 == y27.1) && ((y26.2 == y27.2) && true)))))) == false) (
          let y28 : (Int × Int) := (y0, y2)
          .need (pre34 y28) <|
          .need (pre35 y28) <|
          let y29 : (Bool × (Bool × (Bool × (Bool × Bool)))) := (fn34 y28)
          let y30 : (Bool × (Bool × (Bool × (Bool × Bool)))) := (fn35 y28)
          let y31 : (Bool × (Bool × (Bool × Bool))) := y29.2
          let y32 : (Bool × (Bool × (Bool × Bool))) := y30.2
          let y33 : (Bool × (Bool × Bool)) := y31.2
          let y34 : (Bool × (Bool × Bool)) := y32.2
          let y35 : (Bool × Bool) := y33.2
          let y36 : (Bool × Bool) := y34.2
          .ite (!((y29.1 == y30.1) && ((y31.1 == y32.1) && ((y33.1 == y34.1) && ((y35.1 == y36.1) && ((y35.2 == y36.2) && true)))))) (
            .ret false) (
            let y37 : (Int × (Bool × (Bool × (Bool × (Bool × Bool))))) := y6.2
            let y38 : (Int × (Int × (Bool × (Bool × (Bool × (Bool × Bool)))))) := (y0, (y2, y37.2))
            .need (pre36 y38) <|
            .need (pre37 y38) <|
            .need (pre38 y38) <|
            .need (pre39 y38) <|
            let y39 : (Int × (Bool × (Bool × (Bool × (Bool × Bool))))) := (fn36 y38)
            let y40 : (Int × (Bool × (Bool × (Bool × (Bool × Bool))))) := (fn37 y38)
            .ite ((ine y39.1 y40.1) == false) (
              let y41 : (Bool × (Bool × (Bool × (Bool × Bool)))) := y39.2
              let y42 : (Bool × (Bool × (Bool × (Bool × Bool)))) := y40.2
              let y43 : (Bool × (Bool × (Bool × Bool))) := y41.2
              let y44 : (Bool × (Bool × (Bool × Bool))) := y42.2
              let y45 : (Bool × (Bool × Bool)) := y43.2
              let y46 : (Bool × (Bool × Bool)) := y44.2
              let y47 : (Bool × Bool) := y45.2
              let y48 : (Bool × Bool) := y46.2
              .ite ((!((y41.1 == y42.1) && ((y43.1 == y44.1) && ((y45.1 == y46.1) && ((y47.1 == y48.1) && ((y47.2 == y48.2) && true)))))) == false) (
                let y49 : (Int × (Bool × (Bool × (Bool × (Bool × Bool))))) := (fn38 y38)
                let y50 : (Int × (Bool × (Bool × (Bool × (Bool × Bool))))) := (fn39 y38)
                .ite ((ine y49.1 y50.1) == false) (
                  let y51 : (Bool × (Bool × (Bool × (Bool × Bool)))) := y49.2
                  let y52 : (Bool × (Bool × (Bool × (Bool × Bool)))) := y50.2
                  let y53 : (Bool × (Bool × (Bool × Bool))) := y51.2
                  let y54 : (Bool × (Bool × (Bool × Bool))) := y52.2
                  let y55 : (Bool × (Bool × Bool)) := y53.2
                  let y56 : (Bool × (Bool × Bool)) := y54.2
                  let y57 : (Bool × Bool) := y55.2
                  let y58 : (Bool × Bool) := y56.2
                  .ite (!((y51.1 == y52.1) && ((y53.1 == y54.1) && ((y55.1 == y56.1) && ((y57.1 == y58.1) && ((y57.2 == y58.2) && true)))))) (
                    .ret false) (
                    .need (pre28 y28) <|
                    .need (pre40 y28) <|
                    let y59 : (Int × (Int × (Int × (Int × (Bool × (Bool × (Bool × (Bool × Bool)))))))) := (x.1, (y0, (y2, y37)))
                    .need (pre30 y59) <|
                    .need (pre41 y59) <|
                    let y60 : (Int × (Bool × (Bool × (Bool × (Bool × Bool))))) := (fn28 y28)
                    let y61 : (Int × (Bool × (Bool × (Bool × (Bool × Bool))))) := (fn40 y28)
                    .ite ((ine y60.1 y61.1) == false) (
                      let y62 : (Bool × (Bool × (Bool × (Bool × Bool)))) := y60.2
                      let y63 : (Bool × (Bool × (Bool × (Bool × Bool)))) := y61.2
                      let y64 : (Bool × (Bool × (Bool × Bool))) := y62.2
                      let y65 : (Bool × (Bool × (Bool × Bool))) := y63.2
                      let y66 : (Bool × (Bool × Bool)) := y64.2
                      let y67 : (Bool × (Bool × Bool)) := y65.2
                      let y68 : (Bool × Bool) := y66.2
                      let y69 : (Bool × Bool) := y67.2
                      .ite ((!((y62.1 == y63.1) && ((y64.1 == y65.1) && ((y66.1 == y67.1) && ((y68.1 == y69.1) && ((y68.2 == y69.2) && true)))))) == false) (
                        let y70 : (Int × (Bool × (Bool × (Bool × (Bool × Bool))))) := (fn30 y59)
                        let y71 : (Int × (Bool × (Bool × (Bool × (Bool × Bool))))) := (fn41 y59)
                        .ite ((ine y70.1 y71.1) == false) (
                          let y72 : (Bool × (Bool × (Bool × (Bool × Bool)))) := y70.2
                          let y73 : (Bool × (Bool × (Bool × (Bool × Bool)))) := y71.2
                          let y74 : (Bool × (Bool × (Bool × Bool))) := y72.2
                          let y75 : (Bool × (Bool × (Bool × Bool))) := y73.2
                          let y76 : (Bool × (Bool × Bool)) := y74.2
                          let y77 : (Bool × (Bool × Bool)) := y75.2
                          let y78 : (Bool × Bool) := y76.2
                          let y79 : (Bool × Bool) := y77.2
                          .ite (!((y72.1 == y73.1) && ((y74.1 == y75.1) && ((y76.1 == y77.1) && ((y78.1 == y79.1) && ((y78.2 == y79.2) && true)))))) (
                            .ret false) (
                            let y80 : (Int × (Int × Int)) := (y0, (y2, y4))
                            .need (pre31 y80) <|
                            .need (pre42 y80) <|
                            .need (pre24 y80) <|
                            .need (pre43 y80) <|
                            let y81 : (Int × (Int × (Int × Int))) := (y0, (y2, (y4, y5.1)))
                            .need (pre22 y81) <|
                            .need (pre44 y81) <|
                            let y82 : (Int × (Bool × (Bool × (Bool × (Bool × Bool))))) := (fn31 y80)
                            let y83 : (Int × (Bool × (Bool × (Bool × (Bool × Bool))))) := (fn42 y80)
                            .ite ((ieq y82.1 y83.1) == true) (
                              let y84 : (Bool × (Bool × (Bool × (Bool × Bool)))) := y82.2
                              let y85 : (Bool × (Bool × (Bool × (Bool × Bool)))) := y83.2
                              let y86 : (Bool × (Bool × (Bool × Bool))) := y84.2
                              let y87 : (Bool × (Bool × (Bool × Bool))) := y85.2
                              let y88 : (Bool × (Bool × Bool)) := y86.2
                              let y89 : (Bool × (Bool × Bool)) := y87.2
                              let y90 : (Bool × Bool) := y88.2
                              let y91 : (Bool × Bool) := y89.2
                              .ite (((y84.1 == y85.1) && ((y86.1 == y87.1) && ((y88.1 == y89.1) && ((y90.1 == y91.1) && ((y90.2 == y91.2) && true))))) == true) (
                                let y92 : (Int × (Int × (Bool × (Bool × (Bool × (Bool × Bool)))))) := (fn24 y80)
                                let y93 : (Int × (Int × (Bool × (Bool × (Bool × (Bool × Bool)))))) := (fn43 y80)
                                .ite ((ieq y92.1 y93.1) == true) (
                                  let y94 : (Int × (Bool × (Bool × (Bool × (Bool × Bool))))) := y92.2
                                  let y95 : (Int × (Bool × (Bool × (Bool × (Bool × Bool))))) := y93.2
                                  .ite ((ieq y94.1 y95.1) == true) (
                                    let y96 : (Bool × (Bool × (Bool × (Bool × Bool)))) := y94.2
                                    let y97 : (Bool × (Bool × (Bool × (Bool × Bool)))) := y95.2
                                    let y98 : (Bool × (Bool × (Bool × Bool))) := y96.2
                                    let y99 : (Bool × (Bool × (Bool × Bool))) := y97.2
                                    let y100 : (Bool × (Bool × Bool)) := y98.2
                                    let y101 : (Bool × (Bool × Bool)) := y99.2
                                    let y102 : (Bool × Bool) := y100.2
                                    let y103 : (Bool × Bool) := y101.2
                                    .ite (((y96.1 == y97.1) && ((y98.1 == y99.1) && ((y100.1 == y101.1) && ((y102.1 == y103.1) && ((y102.2 == y103.2) && true))))) == true) (
                                      let y104 : (Int × (Int × Bool)) := (fn22 y81)
                                      let y105 : (Int × (Int × Bool)) := (fn44 y81)
                                      .ite ((ieq y104.1 y105.1) == true) (
                                        let y106 : (Int × Bool) := y104.2
                                        let y107 : (Int × Bool) := y105.2
                                        .ite ((ieq y106.1 y107.1) == true) (
                                          .ite ((y106.2 == y107.2) == true) (
                                            .need (pre23 ()) <|
                                            .ret (fn23 ())) (
                                            .ret false)) (
                                          .ret false)) (
                                        .ret false)) (
                                      .ret false)) (
                                    .ret false)) (
                                  .ret false)) (
                                .ret false)) (
                              .ret false))) (
                          .ret false)) (
                        .ret false)) (
                      .ret false))) (
                  .ret false)) (
                .ret false)) (
              .ret false))) (
          .ret false)) (
        .ret false)) (
      .ret false)) (
    .ret false)
noncomputable def fn11 (x : (Int × (Int × (Int × (Int × (Int × (Bool × (Int × (Bool × (Bool × (Bool × (Bool × Bool)))))))))))) : Bool := (tree11 x).val
def pre11 (x : (Int × (Int × (Int × (Int × (Int × (Bool × (Int × (Bool × (Bool × (Bool × (Bool × Bool)))))))))))) : Prop := (tree11 x).ok
noncomputable def spec11 : Spec := { dom := (.st (.int .u8) (.st (.int .i64) (.st (.int .u64) (.st (.int .u64) (.st (.int .u64) (.st .bool (.st (.int .u8) (.st1 (.st .bool (.st .bool (.st .bool (.st .bool (.st1 .bool))))))))))))), cod := .bool, n := 1, pre := pre11, f := fn11 }
theorem run11 (W : Cfg) (Q : Bool → Prop) (x : (Int × (Int × (Int × (Int × (Int × (Bool × (Int × (Bool × (Bool × (Bool × (Bool × Bool)))))))))))) : run (env tab44 (fun _ _ => none)) (fun _ _ _ => none) (fun v _ => finQ 1 .bool Q v) W 100000 (startFr 11 Tryd.f11 (bodyOf Tryd.f11) (argsOf (.st (.int .u8) (.st (.int .i64) (.st (.int .u64) (.st (.int .u64) (.st (.int .u64) (.st .bool (.st (.int .u8) (.st1 (.st .bool (.st .bool (.st .bool (.st .bool (.st1 .bool))))))))))))) x)) [] [] = (tree11 x).wp Q := by kernel_rfl
theorem ok11 : SpecOk env0 11 spec11 := SpecOk.env rfl (fun _ _ h => h) (spec_of_tree (E := (env tab44 (fun _ _ => none))) (sp := spec11) (valid _ _) (fun f sp h => SpecOk.env rfl (fun _ _ h => h) (tab44_ok f sp h)) (fn := Tryd.f11) (c := (bodyOf Tryd.f11)) (by kernel_rfl) (by kernel_rfl) tree11 run11 (fun _ h => Tr.gives_val h))

noncomputable def tab11 : FuncId → Option Spec
  | 11 => some spec11
  | f => tab44 f
theorem tab11_ok : ∀ f sp, tab11 f = some sp → SpecOk env0 f sp := by
  intro f sp h
  unfold tab11 at h
  split at h
  · cases h; exact ok11
  · exact tab44_ok f sp h

end Go.Eng.RA
end
section
/- Plain laws: widths, masks, words cut. -/
namespace Go.Eng.RA
open Go.Eng

/-- How many bytes. -/
def wd (n : Int) : Nat := if n < 1 then 1 else if n > 8 then 8 else n.toNat

theorem wd_pos (n : Int) : 1 ≤ wd n ∧ wd n ≤ 8 := by unfold wd; split <;> (try split) <;> omega

theorem wide_eq (n : Int) : fn46 n = (wd n : Int) := by
  change imin (imax n 1) 8 = _
  unfold imin imax wd
  split <;> split <;> (try split) <;> (try split) <;> omega

theorem wide_ok (n : Int) : pre46 n := trivial

theorem mask_ok (n : Int) : pre45 n := by
  have h := wd_pos n
  have e := wide_eq n
  refine ⟨wide_ok n, ?_⟩
  change (0 : Int) ≤ fn46 n ∧ fn46 n < 9 ∧ (fn46 n).toNat < 9 ∧ True
  refine ⟨by omega, by omega, by omega, trivial⟩

theorem wd_cases (n : Int) : wd n = 1 ∨ wd n = 2 ∨ wd n = 3 ∨ wd n = 4 ∨ wd n = 5 ∨ wd n = 6 ∨ wd n = 7 ∨ wd n = 8 := by
  have := wd_pos n; omega

theorem mask_eq (n : Int) : fn45 n = ((2 ^ (8 * wd n) - 1 : Nat) : Int) := by
  change rdc (.int .u64) masks (fn46 n).toNat = _
  rw [wide_eq, Int.toNat_natCast]
  rcases wd_cases n with h | h | h | h | h | h | h | h <;> rw [h] <;> rfl

/-- A word cut. -/
def cut (a : Nat) (n : Int) : Nat := a % 2 ^ (8 * wd n)

theorem cut_ok (x : Int) (n : Int) : pre14 (x, n) := ⟨mask_ok n, trivial⟩

theorem cut_eq {a : Nat} (ha : a < 18446744073709551616) (n : Int) : fn14 ((a : Int), n) = (cut a n : Int) := by
  change iand .u64 a (fn45 n) = _
  have hm : 2 ^ (8 * wd n) - 1 < 18446744073709551616 := by
    rcases wd_cases n with h | h | h | h | h | h | h | h <;> rw [h] <;> decide
  rw [mask_eq, iand_u64 ha hm, Nat.and_two_pow_sub_one_eq_mod]
  rfl
end Go.Eng.RA
end
section
/- Plain laws: parity. -/
namespace Go.Eng.RA
open Go.Eng
set_option maxRecDepth 100000

theorem u8_of (a : Nat) : iconv .u8 (a : Int) = ((a % 256 : Nat) : Int) := by
  unfold iconv
  rw [wrap_u8]
  omega

theorem par_ok (a : Nat) : pre17 (a : Int) := by
  have h : a % 256 < 256 := Nat.mod_lt _ (by decide)
  refine ⟨?_, by decide, trivial⟩
  rw [u8_of]
  generalize a % 256 = b at h
  refine ⟨by omega, ?_, trivial⟩
  rw [Int.toNat_natCast]
  exact Nat.lt_of_lt_of_eq h (by kernel_rfl)

def par8 (b : Nat) : Bool := ((b.testBit 0 ^^ b.testBit 1) ^^ (b.testBit 2 ^^ b.testBit 3)) ^^ ((b.testBit 4 ^^ b.testBit 5) ^^ (b.testBit 6 ^^ b.testBit 7))

theorem par8_tab : ∀ b < 256, ieq (irem .i64 (fn51 ((b : Nat) : Int)) 2) 0 = !par8 b := by decide +kernel

theorem par_eq (a : Nat) : fn17 (a : Int) = !par8 (a % 256) := by
  change ieq (irem .i64 (fn51 (iconv .u8 (a : Int))) 2) 0 = _
  rw [u8_of]
  exact par8_tab _ (Nat.mod_lt _ (by decide))
end Go.Eng.RA
end
section
/- Plain laws: a word's bytes. -/
namespace Go.Eng.RA
open Go.Eng
set_option maxRecDepth 100000

def byteAt (a i : Nat) : Int := ((a / 2 ^ (8 * i) % 256 : Nat) : Int)
def bytesOf (a w : Nat) : List Int := (List.range w).map (byteAt a)

theorem bytesOf_succ (a w : Nat) : bytesOf a (w + 1) = bytesOf a w ++ [byteAt a w] := by
  simp [bytesOf, List.range_succ]

theorem bytesOf_len (a w : Nat) : (bytesOf a w).length = w := by simp [bytesOf]

theorem i64_small {x : Int} (h1 : -9223372036854775808 ≤ x) (h2 : x < 9223372036854775808) : IntKind.wrap .i64 x = x := by
  rw [wrap_i64]; omega

theorem byte_val {a i : Nat} (hi : i < 8) : iconv .u8 (ishr .u64 (a : Int) (imul .i64 8 (i : Int))) = byteAt a i := by
  have e : imul .i64 8 (i : Int) = ((8 * i : Nat) : Int) := by
    unfold imul; rw [i64_small (by omega) (by omega)]; omega
  rw [e, ishr_u64 (by omega), u8_of]
  rfl

theorem bytes_from {a : Nat} (n : Int) : ∀ (d i : Nat), wd n = i + d → 1 ≤ i →
    Ends (step18 ((a : Int), n)) (bytesOf a (wd n)) (step18 ((a : Int), n) (.h1 (wd n : Nat) (i : Nat) i i (bytesOf a i)))
  | 0, i, hw, h1 => by
    have hc : ilt (i : Int) ((wd n : Nat) : Int) = false := by simp [ilt]; omega
    simp only [step18, hc]
    refine .no _ _ (.need _ _ (by omega) ?_)
    have : (List.drop 0 (bytesOf a i)).take i = bytesOf a (wd n) := by
      rw [List.drop_zero, List.take_of_length_le (by rw [bytesOf_len]; exact Nat.le_refl _)]; rw [hw]; rfl
    rw [this]
    exact .ret
  | d + 1, i, hw, h1 => by
    have h8 := wd_pos n
    have hc : ilt (i : Int) ((wd n : Nat) : Int) = true := by simp [ilt]; omega
    have hm : (0 : Int) ≤ imul .i64 8 (i : Int) := by unfold imul; rw [i64_small (by omega) (by omega)]; omega
    simp only [step18, hc]
    refine .yes _ _ (.need _ _ hm (.need _ _ (by decide) (.need _ _ (by decide) (.need _ _ trivial ?_))))
    have e1 : (((List.replicate 1 (0 : Int)).set 0 (iconv .u8 (ishr .u64 (a : Int) (imul .i64 8 (i : Int))))).drop 0).take 1 = [byteAt a i] := by
      rw [byte_val (by omega)]; rfl
    have e2 : iadd .i64 (i : Int) 1 = ((i + 1 : Nat) : Int) := by unfold iadd; rw [i64_small (by omega) (by omega)]; omega
    rw [e1, e2, ← bytesOf_succ]
    refine .need _ _ (by simp; omega) (.need _ _ (by simp; omega) (.jump _ ?_))
    exact bytes_from n d (i + 1) (by omega) (by omega)

theorem bytes_ends (a : Nat) (n : Int) : Ends (step18 ((a : Int), n)) (bytesOf a (wd n)) (tree18 ((a : Int), n)) := by
  have h8 := wd_pos n
  refine .need _ _ (wide_ok n) (.jump _ ?_)
  rw [wide_eq]
  have hc : ilt (0 : Int) ((wd n : Nat) : Int) = true := by simp [ilt]; omega
  simp only [step18, hc]
  refine .yes _ _ (.need _ _ (by decide) (.need _ _ (by decide) (.need _ _ (by decide) ?_)))
  have e1 : (((List.replicate 1 (0 : Int)).set 0 (iconv .u8 (ishr .u64 (a : Int) (imul .i64 8 0)))).drop 0).take 1 = [byteAt a 0] := by
    have := byte_val (a := a) (i := 0) (by decide)
    rw [show (imul .i64 8 (0 : Int)) = imul .i64 8 ((0 : Nat) : Int) from rfl, this]; rfl
  rw [e1]
  refine .no _ _ (.need _ _ (by simp) (.need _ _ (by simp) (.jump _ ?_)))
  exact bytes_from n (wd n - 1) 1 (by omega) (Nat.le_refl _)

theorem bytes_ok (a : Nat) (n : Int) : pre18 ((a : Int), n) := ⟨_, bytes_ends a n⟩
theorem bytes_eq (a : Nat) (n : Int) : fn18 ((a : Int), n) = bytesOf a (wd n) := endVal_eq (bytes_ends a n)
end Go.Eng.RA
end
