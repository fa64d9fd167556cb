/- A part of the proof that the laws of this seat hold. Conditions: none beyond the row. -/
import Derived.Test.YtmjebcaakmdgkaaDoorEng1
import Derived.Test.YtmjebcaakmdgkaaDoorProg
import Derived.KernelRfl
import Derived.Lib.LaidTab
section
/- The tables of this program, and that they are right. -/
namespace Go.Eng.RB
open Go.Proofs Go.Eng
set_option maxRecDepth 100000

@[reducible] def CerrorAddressString : TC := (.st .str (.st1 (.int .u64)))
abbrev DerrorAddressString : Type := (ByteArray × Int)
@[reducible] def CboundsError : TC := (.st (.int .i64) (.st (.int .i64) (.st .bool (.st1 (.int .u8)))))
abbrev DboundsError : Type := (Int × (Int × (Bool × Int)))
@[reducible] def CForm : TC := (.st (.int .u8) (.st (.int .u8) (.st (.int .u8) (.st .bool (.st (.int .i64) (.st (.int .u8) (.st (.int .u8) (.st (.int .i64) (.st (.int .u8) (.st (.int .i64) (.st .bool (.st .bool (.st .bool (.st1 .bool))))))))))))))
abbrev DForm : Type := (Int × (Int × (Int × (Bool × (Int × (Int × (Int × (Int × (Int × (Int × (Bool × (Bool × (Bool × Bool)))))))))))))

noncomputable def ty : TypeId → Option ATy
  | 1 => some { desc := Tryd.t1.desc, size := 1, bytes := 8, zero := (.raw .nilFunc), code := none }
  | 2 => some { desc := (.int .i64), size := 1, bytes := 8, zero := (.int .i64 0), code := (some (.int .i64)) }
  | 3 => some { desc := (.int .i64), size := 1, bytes := 8, zero := (.int .i64 0), code := (some (.int .i64)) }
  | 4 => some { desc := .bool, size := 1, bytes := 1, zero := (.bool false), code := (some .bool) }
  | 5 => some { desc := (.int .u8), size := 1, bytes := 1, zero := (.int .u8 0), code := (some (.int .u8)) }
  | 6 => some { desc := (.int .u8), size := 1, bytes := 1, zero := (.int .u8 0), code := (some (.int .u8)) }
  | 7 => some { desc := Tryd.t7.desc, size := 4, bytes := 24, zero := (.agg [1, 1, 1, 1] [(.int .i64 0), (.int .i64 0), (.bool false), (.int .u8 0)]), code := (some CboundsError) }
  | 8 => some { desc := Tryd.t7.desc, size := 4, bytes := 24, zero := (.agg [1, 1, 1, 1] [(.int .i64 0), (.int .i64 0), (.bool false), (.int .u8 0)]), code := (some CboundsError) }
  | 9 => some { desc := .string, size := 1, bytes := 16, zero := (.str ByteArray.empty), code := (some .str) }
  | 10 => some { desc := .string, size := 1, bytes := 16, zero := (.str ByteArray.empty), code := (some .str) }
  | 11 => some { desc := .string, size := 1, bytes := 16, zero := (.str ByteArray.empty), code := (some .str) }
  | 12 => some { desc := (.int .u64), size := 1, bytes := 8, zero := (.int .u64 0), code := (some (.int .u64)) }
  | 13 => some { desc := Tryd.t13.desc, size := 2, bytes := 24, zero := (.agg [1, 1] [(.str ByteArray.empty), (.int .u64 0)]), code := (some CerrorAddressString) }
  | 14 => some { desc := Tryd.t13.desc, size := 2, bytes := 24, zero := (.agg [1, 1] [(.str ByteArray.empty), (.int .u64 0)]), code := (some CerrorAddressString) }
  | 15 => some { desc := (.pointer 65), size := 1, bytes := 8, zero := (.raw (.pointer none)), code := none }
  | 16 => some { desc := (.pointer 68), size := 1, bytes := 8, zero := (.raw (.pointer none)), code := none }
  | 17 => some { desc := (.pointer 78), size := 1, bytes := 8, zero := (.raw (.pointer none)), code := none }
  | 18 => some { desc := Tryd.t18.desc, size := 1, bytes := 8, zero := (.agg [1] [(.raw (.pointer none))]), code := none }
  | 19 => some { desc := Tryd.t18.desc, size := 1, bytes := 8, zero := (.agg [1] [(.raw (.pointer none))]), code := none }
  | 20 => some { desc := Tryd.t20.desc, size := 1, bytes := 16, zero := (.raw .nilIface), code := none }
  | 21 => some { desc := (.int .i32), size := 1, bytes := 4, zero := (.int .i32 0), code := (some (.int .i32)) }
  | 22 => some { desc := Tryd.t22.desc, size := 14, bytes := 56, zero := (.agg [1, 1, 1, 1, 1, 1, 1, 1, 1, 1, 1, 1, 1, 1] [(.int .u8 0), (.int .u8 0), (.int .u8 0), (.bool false), (.int .i64 0), (.int .u8 0), (.int .u8 0), (.int .i64 0), (.int .u8 0), (.int .i64 0), (.bool false), (.bool false), (.bool false), (.bool false)]), code := (some CForm) }
  | 23 => some { desc := Tryd.t22.desc, size := 14, bytes := 56, zero := (.agg [1, 1, 1, 1, 1, 1, 1, 1, 1, 1, 1, 1, 1, 1] [(.int .u8 0), (.int .u8 0), (.int .u8 0), (.bool false), (.int .i64 0), (.int .u8 0), (.int .u8 0), (.int .i64 0), (.int .u8 0), (.int .i64 0), (.bool false), (.bool false), (.bool false), (.bool false)]), code := (some CForm) }
  | 24 => some { desc := (.slice 23), size := 1, bytes := 24, zero := (.raw (.slice none 0 0)), code := (some (.slice CForm)) }
  | 25 => some { desc := Tryd.t25.desc, size := 1, bytes := 8, zero := (.raw .nilFunc), code := none }
  | 27 => some { desc := Tryd.t27.desc, size := 1, bytes := 8, zero := (.raw .nilFunc), code := none }
  | 28 => some { desc := Tryd.t28.desc, size := 1, bytes := 8, zero := (.raw .nilFunc), code := none }
  | 29 => some { desc := Tryd.t29.desc, size := 1, bytes := 8, zero := (.raw .nilFunc), code := none }
  | 30 => some { desc := (.slice 5), size := 1, bytes := 24, zero := (.raw (.slice none 0 0)), code := (some (.slice (.int .u8))) }
  | 31 => some { desc := Tryd.t31.desc, size := 1, bytes := 8, zero := (.raw .nilFunc), code := none }
  | 32 => some { desc := Tryd.t32.desc, size := 1, bytes := 8, zero := (.raw .nilFunc), code := none }
  | 33 => some { desc := Tryd.t33.desc, size := 1, bytes := 8, zero := (.raw .nilFunc), code := none }
  | 34 => some { desc := (.array 40 4), size := 40, bytes := 40, zero := (.arr 40 .bool (List.replicate 40 false)), code := (some (.arr 40 .bool)) }
  | 35 => some { desc := Tryd.t35.desc, size := 1, bytes := 8, zero := (.raw .nilFunc), code := none }
  | 36 => some { desc := (.array 4 3), size := 4, bytes := 32, zero := (.arr 4 (.int .i64) (List.replicate 4 (0 : Int))), code := (some (.arr 4 (.int .i64))) }
  | 37 => some { desc := Tryd.t37.desc, size := 1, bytes := 8, zero := (.raw .nilFunc), code := none }
  | 38 => some { desc := Tryd.t38.desc, size := 1, bytes := 8, zero := (.raw .nilFunc), code := none }
  | 39 => some { desc := Tryd.t39.desc, size := 1, bytes := 8, zero := (.raw .nilFunc), code := none }
  | 40 => some { desc := Tryd.t39.desc, size := 1, bytes := 8, zero := (.raw .nilFunc), code := none }
  | 41 => some { desc := Tryd.t41.desc, size := 1, bytes := 8, zero := (.raw .nilFunc), code := none }
  | 42 => some { desc := Tryd.t42.desc, size := 1, bytes := 8, zero := (.raw .nilFunc), code := none }
  | 43 => some { desc := (.array 4 30), size := 4, bytes := 96, zero := (.arr 4 (.slice (.int .u8)) (List.replicate 4 ([] : List Int))), code := (some (.arr 4 (.slice (.int .u8)))) }
  | 44 => some { desc := Tryd.t44.desc, size := 1, bytes := 8, zero := (.raw .nilFunc), code := none }
  | 45 => some { desc := Tryd.t45.desc, size := 1, bytes := 8, zero := (.raw .nilFunc), code := none }
  | 46 => some { desc := (.array 4 24), size := 4, bytes := 96, zero := (.arr 4 (.slice CForm) (List.replicate 4 ([] : List DForm))), code := (some (.arr 4 (.slice CForm))) }
  | 47 => some { desc := (.array 8 5), size := 8, bytes := 8, zero := (.arr 8 (.int .u8) (List.replicate 8 (0 : Int))), code := (some (.arr 8 (.int .u8))) }
  | 48 => some { desc := (.array 5 3), size := 5, bytes := 40, zero := (.arr 5 (.int .i64) (List.replicate 5 (0 : Int))), code := (some (.arr 5 (.int .i64))) }
  | 49 => some { desc := (.array 5 5), size := 5, bytes := 5, zero := (.arr 5 (.int .u8) (List.replicate 5 (0 : Int))), code := (some (.arr 5 (.int .u8))) }
  | 50 => some { desc := Tryd.t50.desc, size := 1, bytes := 8, zero := (.raw .nilFunc), code := none }
  | 51 => some { desc := Tryd.t51.desc, size := 1, bytes := 8, zero := (.raw .nilFunc), code := none }
  | 52 => some { desc := Tryd.t52.desc, size := 1, bytes := 8, zero := (.raw .nilFunc), code := none }
  | 53 => some { desc := Tryd.t53.desc, size := 3, bytes := 24, zero := (.agg [1, 1, 1] [(.int .u8 0), (.int .i64 0), (.int .u8 0)]), code := (some (.st (.int .u8) (.st (.int .i64) (.st1 (.int .u8))))) }
  | 54 => some { desc := (.array 6 53), size := 18, bytes := 144, zero := (.arr 6 (.st (.int .u8) (.st (.int .i64) (.st1 (.int .u8)))) (List.replicate 6 (0, (0, 0)))), code := (some (.arr 6 (.st (.int .u8) (.st (.int .i64) (.st1 (.int .u8)))))) }
  | 55 => some { desc := Tryd.t55.desc, size := 1, bytes := 8, zero := (.raw .nilFunc), code := none }
  | 56 => some { desc := Tryd.t56.desc, size := 1, bytes := 8, zero := (.raw .nilFunc), code := none }
  | 57 => some { desc := Tryd.t57.desc, size := 1, bytes := 8, zero := (.raw .nilFunc), code := none }
  | 58 => some { desc := Tryd.t58.desc, size := 1, bytes := 8, zero := (.raw .nilFunc), code := none }
  | 59 => some { desc := Tryd.t59.desc, size := 1, bytes := 8, zero := (.raw .nilFunc), code := none }
  | 60 => some { desc := (.slice 24), size := 1, bytes := 24, zero := (.raw (.slice none 0 0)), code := (some (.slice (.slice CForm))) }
  | 61 => some { desc := Tryd.t61.desc, size := 1, bytes := 8, zero := (.raw .nilFunc), code := none }
  | 62 => some { desc := Tryd.t62.desc, size := 1, bytes := 8, zero := (.raw .nilFunc), code := none }
  | 63 => some { desc := Tryd.t63.desc, size := 1, bytes := 8, zero := (.raw .nilFunc), code := none }
  | 64 => some { desc := Tryd.t64.desc, size := 4, bytes := 40, zero := (.agg [1, 1, 1, 1] [(.raw (.pointer none)), (.raw (.pointer none)), (.raw (.pointer none)), (.str ByteArray.empty)]), code := none }
  | 65 => some { desc := Tryd.t64.desc, size := 4, bytes := 40, zero := (.agg [1, 1, 1, 1] [(.raw (.pointer none)), (.raw (.pointer none)), (.raw (.pointer none)), (.str ByteArray.empty)]), code := none }
  | 66 => some { desc := (.array 0 16), size := 0, bytes := 0, zero := (.agg [] []), code := none }
  | 69 => some { desc := Tryd.t69.desc, size := 1, bytes := 8, zero := (.raw .nilFunc), code := none }
  | 70 => some { desc := (.int .u32), size := 1, bytes := 4, zero := (.int .u32 0), code := (some (.int .u32)) }
  | 71 => some { desc := (.int .u8), size := 1, bytes := 1, zero := (.int .u8 0), code := (some (.int .u8)) }
  | 72 => some { desc := (.int .u8), size := 1, bytes := 1, zero := (.int .u8 0), code := (some (.int .u8)) }
  | 73 => some { desc := Tryd.t73.desc, size := 1, bytes := 8, zero := (.raw .nilFunc), code := none }
  | 74 => some { desc := (.pointer 5), size := 1, bytes := 8, zero := (.raw (.pointer none)), code := none }
  | 75 => some { desc := (.int .i32), size := 1, bytes := 4, zero := (.int .i32 0), code := (some (.int .i32)) }
  | 76 => some { desc := (.int .i32), size := 1, bytes := 4, zero := (.int .i32 0), code := (some (.int .i32)) }
  | 77 => some { desc := Tryd.t77.desc, size := 11, bytes := 48, zero := (.agg [1, 1, 1, 1, 1, 1, 1, 1, 1, 1, 1] [(.int .u64 0), (.int .u64 0), (.int .u32 0), (.int .u8 0), (.int .u8 0), (.int .u8 0), (.int .u8 0), (.raw .nilFunc), (.raw (.pointer none)), (.int .i32 0), (.int .i32 0)]), code := none }
  | 78 => some { desc := Tryd.t77.desc, size := 11, bytes := 48, zero := (.agg [1, 1, 1, 1, 1, 1, 1, 1, 1, 1, 1] [(.int .u64 0), (.int .u64 0), (.int .u32 0), (.int .u8 0), (.int .u8 0), (.int .u8 0), (.int .u8 0), (.raw .nilFunc), (.raw (.pointer none)), (.int .i32 0), (.int .i32 0)]), code := none }
  | _ => none

theorem ty_ok : ∀ t d, ty t = some d → d.ok Tryd.prog t := by
  intro t d h
  unfold ty at h
  split at h
  · cases h; exact ATy.ok_of (i := Tryd.t1) Tryd.underlying1 Tryd.type1 rfl (by kernel_rfl)
  · cases h; exact ATy.ok_of (i := Tryd.t2) Tryd.underlying2 Tryd.type2 rfl (by kernel_rfl)
  · cases h; exact ATy.ok_of (i := Tryd.t3) Tryd.underlying3 Tryd.type3 rfl (by kernel_rfl)
  · cases h; exact ATy.ok_of (i := Tryd.t4) Tryd.underlying4 Tryd.type4 rfl (by kernel_rfl)
  · cases h; exact ATy.ok_of (i := Tryd.t5) Tryd.underlying5 Tryd.type5 rfl (by kernel_rfl)
  · cases h; exact ATy.ok_of (i := Tryd.t6) Tryd.underlying6 Tryd.type6 rfl (by kernel_rfl)
  · cases h; exact ATy.ok_of (i := Tryd.t7) Tryd.underlying7 Tryd.type7 rfl (by kernel_rfl)
  · cases h; exact ATy.ok_of (i := Tryd.t8) Tryd.underlying8 Tryd.type8 rfl (by kernel_rfl)
  · cases h; exact ATy.ok_of (i := Tryd.t9) Tryd.underlying9 Tryd.type9 rfl (by kernel_rfl)
  · cases h; exact ATy.ok_of (i := Tryd.t10) Tryd.underlying10 Tryd.type10 rfl (by kernel_rfl)
  · cases h; exact ATy.ok_of (i := Tryd.t11) Tryd.underlying11 Tryd.type11 rfl (by kernel_rfl)
  · cases h; exact ATy.ok_of (i := Tryd.t12) Tryd.underlying12 Tryd.type12 rfl (by kernel_rfl)
  · cases h; exact ATy.ok_of (i := Tryd.t13) Tryd.underlying13 Tryd.type13 rfl (by kernel_rfl)
  · cases h; exact ATy.ok_of (i := Tryd.t14) Tryd.underlying14 Tryd.type14 rfl (by kernel_rfl)
  · cases h; exact ATy.ok_of (i := Tryd.t15) Tryd.underlying15 Tryd.type15 rfl (by kernel_rfl)
  · cases h; exact ATy.ok_of (i := Tryd.t16) Tryd.underlying16 Tryd.type16 rfl (by kernel_rfl)
  · cases h; exact ATy.ok_of (i := Tryd.t17) Tryd.underlying17 Tryd.type17 rfl (by kernel_rfl)
  · cases h; exact ATy.ok_of (i := Tryd.t18) Tryd.underlying18 Tryd.type18 rfl (by kernel_rfl)
  · cases h; exact ATy.ok_of (i := Tryd.t19) Tryd.underlying19 Tryd.type19 rfl (by kernel_rfl)
  · cases h; exact ATy.ok_of (i := Tryd.t20) Tryd.underlying20 Tryd.type20 rfl (by kernel_rfl)
  · cases h; exact ATy.ok_of (i := Tryd.t21) Tryd.underlying21 Tryd.type21 rfl (by kernel_rfl)
  · cases h; exact ATy.ok_of (i := Tryd.t22) Tryd.underlying22 Tryd.type22 rfl (by kernel_rfl)
  · cases h; exact ATy.ok_of (i := Tryd.t23) Tryd.underlying23 Tryd.type23 rfl (by kernel_rfl)
  · cases h; exact ATy.ok_of (i := Tryd.t24) Tryd.underlying24 Tryd.type24 rfl (by kernel_rfl)
  · cases h; exact ATy.ok_of (i := Tryd.t25) Tryd.underlying25 Tryd.type25 rfl (by kernel_rfl)
  · cases h; exact ATy.ok_of (i := Tryd.t27) Tryd.underlying27 Tryd.type27 rfl (by kernel_rfl)
  · cases h; exact ATy.ok_of (i := Tryd.t28) Tryd.underlying28 Tryd.type28 rfl (by kernel_rfl)
  · cases h; exact ATy.ok_of (i := Tryd.t29) Tryd.underlying29 Tryd.type29 rfl (by kernel_rfl)
  · cases h; exact ATy.ok_of (i := Tryd.t30) Tryd.underlying30 Tryd.type30 rfl (by kernel_rfl)
  · cases h; exact ATy.ok_of (i := Tryd.t31) Tryd.underlying31 Tryd.type31 rfl (by kernel_rfl)
  · cases h; exact ATy.ok_of (i := Tryd.t32) Tryd.underlying32 Tryd.type32 rfl (by kernel_rfl)
  · cases h; exact ATy.ok_of (i := Tryd.t33) Tryd.underlying33 Tryd.type33 rfl (by kernel_rfl)
  · cases h; exact ATy.ok_of (i := Tryd.t34) Tryd.underlying34 Tryd.type34 rfl (by kernel_rfl)
  · cases h; exact ATy.ok_of (i := Tryd.t35) Tryd.underlying35 Tryd.type35 rfl (by kernel_rfl)
  · cases h; exact ATy.ok_of (i := Tryd.t36) Tryd.underlying36 Tryd.type36 rfl (by kernel_rfl)
  · cases h; exact ATy.ok_of (i := Tryd.t37) Tryd.underlying37 Tryd.type37 rfl (by kernel_rfl)
  · cases h; exact ATy.ok_of (i := Tryd.t38) Tryd.underlying38 Tryd.type38 rfl (by kernel_rfl)
  · cases h; exact ATy.ok_of (i := Tryd.t39) Tryd.underlying39 Tryd.type39 rfl (by kernel_rfl)
  · cases h; exact ATy.ok_of (i := Tryd.t40) Tryd.underlying40 Tryd.type40 rfl (by kernel_rfl)
  · cases h; exact ATy.ok_of (i := Tryd.t41) Tryd.underlying41 Tryd.type41 rfl (by kernel_rfl)
  · cases h; exact ATy.ok_of (i := Tryd.t42) Tryd.underlying42 Tryd.type42 rfl (by kernel_rfl)
  · cases h; exact ATy.ok_of (i := Tryd.t43) Tryd.underlying43 Tryd.type43 rfl (by kernel_rfl)
  · cases h; exact ATy.ok_of (i := Tryd.t44) Tryd.underlying44 Tryd.type44 rfl (by kernel_rfl)
  · cases h; exact ATy.ok_of (i := Tryd.t45) Tryd.underlying45 Tryd.type45 rfl (by kernel_rfl)
  · cases h; exact ATy.ok_of (i := Tryd.t46) Tryd.underlying46 Tryd.type46 rfl (by kernel_rfl)
  · cases h; exact ATy.ok_of (i := Tryd.t47) Tryd.underlying47 Tryd.type47 rfl (by kernel_rfl)
  · cases h; exact ATy.ok_of (i := Tryd.t48) Tryd.underlying48 Tryd.type48 rfl (by kernel_rfl)
  · cases h; exact ATy.ok_of (i := Tryd.t49) Tryd.underlying49 Tryd.type49 rfl (by kernel_rfl)
  · cases h; exact ATy.ok_of (i := Tryd.t50) Tryd.underlying50 Tryd.type50 rfl (by kernel_rfl)
  · cases h; exact ATy.ok_of (i := Tryd.t51) Tryd.underlying51 Tryd.type51 rfl (by kernel_rfl)
  · cases h; exact ATy.ok_of (i := Tryd.t52) Tryd.underlying52 Tryd.type52 rfl (by kernel_rfl)
  · cases h; exact ATy.ok_of (i := Tryd.t53) Tryd.underlying53 Tryd.type53 rfl (by kernel_rfl)
  · cases h; exact ATy.ok_of (i := Tryd.t54) Tryd.underlying54 Tryd.type54 rfl (by kernel_rfl)
  · cases h; exact ATy.ok_of (i := Tryd.t55) Tryd.underlying55 Tryd.type55 rfl (by kernel_rfl)
  · cases h; exact ATy.ok_of (i := Tryd.t56) Tryd.underlying56 Tryd.type56 rfl (by kernel_rfl)
  · cases h; exact ATy.ok_of (i := Tryd.t57) Tryd.underlying57 Tryd.type57 rfl (by kernel_rfl)
  · cases h; exact ATy.ok_of (i := Tryd.t58) Tryd.underlying58 Tryd.type58 rfl (by kernel_rfl)
  · cases h; exact ATy.ok_of (i := Tryd.t59) Tryd.underlying59 Tryd.type59 rfl (by kernel_rfl)
  · cases h; exact ATy.ok_of (i := Tryd.t60) Tryd.underlying60 Tryd.type60 rfl (by kernel_rfl)
  · cases h; exact ATy.ok_of (i := Tryd.t61) Tryd.underlying61 Tryd.type61 rfl (by kernel_rfl)
  · cases h; exact ATy.ok_of (i := Tryd.t62) Tryd.underlying62 Tryd.type62 rfl (by kernel_rfl)
  · cases h; exact ATy.ok_of (i := Tryd.t63) Tryd.underlying63 Tryd.type63 rfl (by kernel_rfl)
  · cases h; exact ATy.ok_of (i := Tryd.t64) Tryd.underlying64 Tryd.type64 rfl (by kernel_rfl)
  · cases h; exact ATy.ok_of (i := Tryd.t65) Tryd.underlying65 Tryd.type65 rfl (by kernel_rfl)
  · cases h; exact ATy.ok_of (i := Tryd.t66) Tryd.underlying66 Tryd.type66 rfl (by kernel_rfl)
  · cases h; exact ATy.ok_of (i := Tryd.t69) Tryd.underlying69 Tryd.type69 rfl (by kernel_rfl)
  · cases h; exact ATy.ok_of (i := Tryd.t70) Tryd.underlying70 Tryd.type70 rfl (by kernel_rfl)
  · cases h; exact ATy.ok_of (i := Tryd.t71) Tryd.underlying71 Tryd.type71 rfl (by kernel_rfl)
  · cases h; exact ATy.ok_of (i := Tryd.t72) Tryd.underlying72 Tryd.type72 rfl (by kernel_rfl)
  · cases h; exact ATy.ok_of (i := Tryd.t73) Tryd.underlying73 Tryd.type73 rfl (by kernel_rfl)
  · cases h; exact ATy.ok_of (i := Tryd.t74) Tryd.underlying74 Tryd.type74 rfl (by kernel_rfl)
  · cases h; exact ATy.ok_of (i := Tryd.t75) Tryd.underlying75 Tryd.type75 rfl (by kernel_rfl)
  · cases h; exact ATy.ok_of (i := Tryd.t76) Tryd.underlying76 Tryd.type76 rfl (by kernel_rfl)
  · cases h; exact ATy.ok_of (i := Tryd.t77) Tryd.underlying77 Tryd.type77 rfl (by kernel_rfl)
  · cases h; exact ATy.ok_of (i := Tryd.t78) Tryd.underlying78 Tryd.type78 rfl (by kernel_rfl)
  · cases h

noncomputable def fns : FuncId → Option Func
  | 3 => some Tryd.f3
  | 4 => some Tryd.f4
  | 5 => some Tryd.f5
  | 6 => some Tryd.f6
  | 7 => some Tryd.f7
  | 8 => some Tryd.f8
  | 9 => some Tryd.f9
  | 10 => some Tryd.f10
  | 11 => some Tryd.f11
  | 12 => some Tryd.f12
  | 13 => some Tryd.f13
  | 14 => some Tryd.f14
  | 15 => some Tryd.f15
  | 16 => some Tryd.f16
  | 17 => some Tryd.f17
  | 18 => some Tryd.f18
  | 19 => some Tryd.f19
  | 20 => some Tryd.f20
  | 21 => some Tryd.f21
  | 22 => some Tryd.f22
  | 23 => some Tryd.f23
  | 24 => some Tryd.f24
  | 25 => some Tryd.f25
  | 26 => some Tryd.f26
  | 27 => some Tryd.f27
  | 28 => some Tryd.f28
  | 29 => some Tryd.f29
  | 30 => some Tryd.f30
  | 31 => some Tryd.f31
  | 32 => some Tryd.f32
  | 33 => some Tryd.f33
  | 34 => some Tryd.f34
  | 35 => some Tryd.f35
  | 36 => some Tryd.f36
  | 37 => some Tryd.f37
  | 38 => some Tryd.f38
  | 40 => some Tryd.f40
  | 41 => some Tryd.f41
  | 42 => some Tryd.f42
  | 43 => some Tryd.f43
  | _ => none

theorem fns_ok : ∀ f fn, fns f = some fn → Tryd.prog.funcs[f]? = some fn ∧ (fn.name == "runtime.NumGoroutine") = false := by
  intro f fn h
  unfold fns at h
  split at h
  · cases h; exact ⟨Tryd.func3, by kernel_rfl⟩
  · cases h; exact ⟨Tryd.func4, by kernel_rfl⟩
  · cases h; exact ⟨Tryd.func5, by kernel_rfl⟩
  · cases h; exact ⟨Tryd.func6, by kernel_rfl⟩
  · cases h; exact ⟨Tryd.func7, by kernel_rfl⟩
  · cases h; exact ⟨Tryd.func8, by kernel_rfl⟩
  · cases h; exact ⟨Tryd.func9, by kernel_rfl⟩
  · cases h; exact ⟨Tryd.func10, by kernel_rfl⟩
  · cases h; exact ⟨Tryd.func11, by kernel_rfl⟩
  · cases h; exact ⟨Tryd.func12, by kernel_rfl⟩
  · cases h; exact ⟨Tryd.func13, by kernel_rfl⟩
  · cases h; exact ⟨Tryd.func14, by kernel_rfl⟩
  · cases h; exact ⟨Tryd.func15, by kernel_rfl⟩
  · cases h; exact ⟨Tryd.func16, by kernel_rfl⟩
  · cases h; exact ⟨Tryd.func17, by kernel_rfl⟩
  · cases h; exact ⟨Tryd.func18, by kernel_rfl⟩
  · cases h; exact ⟨Tryd.func19, by kernel_rfl⟩
  · cases h; exact ⟨Tryd.func20, by kernel_rfl⟩
  · cases h; exact ⟨Tryd.func21, by kernel_rfl⟩
  · cases h; exact ⟨Tryd.func22, by kernel_rfl⟩
  · cases h; exact ⟨Tryd.func23, by kernel_rfl⟩
  · cases h; exact ⟨Tryd.func24, by kernel_rfl⟩
  · cases h; exact ⟨Tryd.func25, by kernel_rfl⟩
  · cases h; exact ⟨Tryd.func26, by kernel_rfl⟩
  · cases h; exact ⟨Tryd.func27, by kernel_rfl⟩
  · cases h; exact ⟨Tryd.func28, by kernel_rfl⟩
  · cases h; exact ⟨Tryd.func29, by kernel_rfl⟩
  · cases h; exact ⟨Tryd.func30, by kernel_rfl⟩
  · cases h; exact ⟨Tryd.func31, by kernel_rfl⟩
  · cases h; exact ⟨Tryd.func32, by kernel_rfl⟩
  · cases h; exact ⟨Tryd.func33, by kernel_rfl⟩
  · cases h; exact ⟨Tryd.func34, by kernel_rfl⟩
  · cases h; exact ⟨Tryd.func35, by kernel_rfl⟩
  · cases h; exact ⟨Tryd.func36, by kernel_rfl⟩
  · cases h; exact ⟨Tryd.func37, by kernel_rfl⟩
  · cases h; exact ⟨Tryd.func38, by kernel_rfl⟩
  · cases h; exact ⟨Tryd.func40, by kernel_rfl⟩
  · cases h; exact ⟨Tryd.func41, by kernel_rfl⟩
  · cases h; exact ⟨Tryd.func42, by kernel_rfl⟩
  · cases h; exact ⟨Tryd.func43, by kernel_rfl⟩
  · cases h

theorem mixed : Tryd.prog.follows .mixedOrders = true := by kernel_rfl

noncomputable def glob : Nat → Option AV
  | 0 => some (.arr 8 (.int .u8) [3, 4, 5, 6, 7, 8, 9, 10])
  | _ => none

def split : FuncId → Nat → Option (Nat × List Step × Nat)
  | 16, 4 => some (1, [.fld 1 1], 4)
  | _, _ => none
def exact : FuncId → Bool
  | 35 => true
  | 37 => true
  | 41 => true
  | _ => false
def apart : FuncId → Bool
  | 39 => true
  | _ => false
theorem apart_ok : ∀ f, apart f = true → ApartOk Tryd.prog f := by
  intro f h
  unfold apart at h
  split at h
  · exact apart_of (fn := Tryd.f39) (tS := 24) (tR := 4) (e := 23) Tryd.func39 (by kernel_rfl) rfl (by kernel_rfl) (by kernel_rfl) Tryd.underlying24 (ty_ok 23 _ rfl)
  · cases h
noncomputable def env (sp : FuncId → Option Spec) (mk : FuncId → Nat → Option (List Nat)) : Env := { P := Tryd.prog, ty := ty, fns := fns, glob := glob, spec := sp, mask := mk, exact := exact, apart := apart, split := split }
noncomputable abbrev env0 : Env := env (fun _ => none) (fun _ _ => none)
theorem valid (sp : FuncId → Option Spec) (mk : FuncId → Nat → Option (List Nat)) : (env sp mk).Valid := ⟨ty_ok, fns_ok, mixed, apart_ok⟩
end Go.Eng.RB
end
section
/- The tables of this program where a row lays them. -/
namespace Go.Eng.RB
open Go.Proofs Go.Eng Go.RowKit

def deeds : List Int := [3, 4, 5, 6, 7, 8, 9, 10]

theorem deeds_all {W : World} (h : Lib.TabIs Tryd.prog W "sundial/codes.deeds" .u8 deeds) : GlobRep env0 ⟨W, protAll W, []⟩ := by
  have hg : Tryd.prog.globalNamed "sundial/codes.deeds" = some 0 := by kernel_rfl
  unfold Lib.TabIs World.var? at h
  rw [hg] at h
  simp only [Option.bind_some] at h
  intro g v e
  have e : glob g = some v := e
  unfold glob at e
  split at e
  · cases e
    split at h
    · rename_i cs t fz hh
      simp only [Option.some.injEq] at h
      subst h
      refine ⟨(deeds.map fun z => Value.int .u8 z).toArray, t, fz, deeds.map fun z => Value.int .u8 z, hh, fun ι' => ground_ok ι' _ _ (by kernel_rfl), ?_⟩
      intro j v hj
      simpa using hj
    · cases h
  · cases e
end Go.Eng.RB
end
section
/- Functions of this program, written out. -/
namespace Go.Eng.RB
open Go.Proofs Go.Eng
set_option maxRecDepth 100000

noncomputable def tab0 : FuncId → Option Spec := fun _ => none
theorem tab0_ok : ∀ f sp, tab0 f = some sp → SpecOk env0 f sp := fun _ _ h => by cases h

/-! ### sundial/codes.moves$1 -/
noncomputable def tree33 (x : (Int × (Int × Int))) : Tr DForm :=
  let y0 : Int := x.2.1
  .ret (0, (0, (x.1, (false, (0, (1, (0, (y0, (4, (x.2.2, (false, (false, ((ieq y0 1), false)))))))))))))
noncomputable def fn33 (x : (Int × (Int × Int))) : DForm := (tree33 x).val
def pre33 (x : (Int × (Int × Int))) : Prop := (tree33 x).ok
noncomputable def spec33 : Spec := { dom := (.st (.int .u8) (.st (.int .i64) (.st1 (.int .i64)))), cod := CForm, n := 1, pre := pre33, f := fn33 }
theorem run33 (W : Cfg) (Q : DForm → Prop) (x : (Int × (Int × Int))) : run (env tab0 (fun _ _ => none)) (fun _ _ _ => none) (finS spec33 Q) W 100000 (startFr 33 Tryd.f33 (bodyOf Tryd.f33) (argsOf (.st (.int .u8) (.st (.int .i64) (.st1 (.int .i64)))) x)) [] [] = (tree33 x).wp Q := by kernel_rfl
theorem ok33 : SpecOk env0 33 spec33 := SpecOk.env rfl (fun _ _ h => h) (spec_of_tree (E := (env tab0 (fun _ _ => none))) (sp := spec33) (valid _ _) (fun f sp h => SpecOk.env rfl (fun _ _ h => h) (tab0_ok f sp h)) (fn := Tryd.f33) (c := (bodyOf Tryd.f33)) (by kernel_rfl) (by kernel_rfl) tree33 run33 (fun _ h => Tr.gives_val h))

noncomputable def tab33 : FuncId → Option Spec
  | 33 => some spec33
  | f => tab0 f
theorem tab33_ok : ∀ f sp, tab33 f = some sp → SpecOk env0 f sp := by
  intro f sp h
  unfold tab33 at h
  split at h
  · cases h; exact ok33
  · exact tab0_ok f sp h

/-! ### sundial/codes.moves -/
noncomputable def tree29 (_x : Unit) : Tr (List DForm) :=
  .need ((0 : Nat) < 6) <|
  .need ((1 : Nat) < 6) <|
  .need ((2 : Nat) < 6) <|
  .need ((3 : Nat) < 6) <|
  .need ((4 : Nat) < 6) <|
  .need ((5 : Nat) < 6) <|
  .need ((0 : Int) ≤ 0) <|
  .need (0 < (6 : Int)) <|
  .need ((0 : Nat) < 6) <|
  .need ((0 : Int) ≤ 1) <|
  .need (1 < (6 : Int)) <|
  .need ((1 : Nat) < 6) <|
  .need ((0 : Int) ≤ 2) <|
  .need (2 < (6 : Int)) <|
  .need ((2 : Nat) < 6) <|
  .need ((0 : Int) ≤ 3) <|
  .need (3 < (6 : Int)) <|
  .need ((3 : Nat) < 6) <|
  .need ((0 : Int) ≤ 4) <|
  .need (4 < (6 : Int)) <|
  .need ((4 : Nat) < 6) <|
  .need ((0 : Int) ≤ 5) <|
  .need (5 < (6 : Int)) <|
  .need ((5 : Nat) < 6) <|
  let y0 : (Int × (Int × Int)) := (199, (0, 4))
  .need (pre33 y0) <|
  .need ((0 : Nat) < 1) <|
  .need ((0 : Int) ≤ 2) <|
  .need ((2 : Nat) ≤ 6) <|
  .need ((2 : Nat) = 0 ∨ (2 : Nat) < 6) <|
  .need ((0 : Int) ≤ 2) <|
  .need ((0 : Nat) ≤ 2) <|
  .need ((2 : Nat) ≤ 6) <|
  .need ((0 : Nat) = 0 ∨ (0 : Nat) < 6) <|
  .need ((0 : Int) < 5) <|
  .need ((6 : Nat) < 7) <|
  .need ((0 + 2 : Nat) ≤ 6) <|
  .need (((7 : Nat) * 56 : Nat) ≤ 2 ^ 40) <|
  .need ((7 : Nat) ≤ 2 ^ 40) <|
  .all fun j1 =>
  .need ((0 : Int) ≤ 2) <|
  .need ((2 : Nat) ≤ 7) <|
  let y1 : Nat := (7 + j1)
  .need ((2 : Nat) = 0 ∨ (2 : Nat) < y1) <|
  .need (((0 : Nat) + 1 : Nat) ≤ 1) <|
  .need ((2 + 5 : Nat) ≤ y1) <|
  .need ((0 : Int) ≤ 3) <|
  .need ((3 : Nat) ≤ 7) <|
  .need ((3 : Nat) = 0 ∨ (3 : Nat) < y1) <|
  .need ((0 : Int) ≤ 2) <|
  .need ((2 : Nat) ≤ 6) <|
  .need ((2 : Nat) = 0 ∨ (2 : Nat) < 6) <|
  .need (((2 : Nat) + 4 : Nat) ≤ 6) <|
  .need ((3 + 4 : Nat) ≤ y1) <|
  let y2 : (Int × (Int × Int)) := (198, (1, 1))
  .need (pre33 y2) <|
  .need ((0 : Nat) < 1) <|
  .need ((0 : Int) ≤ 6) <|
  .need ((6 : Nat) ≤ 7) <|
  .need ((6 : Nat) = 0 ∨ (6 : Nat) < y1) <|
  .ite (ilt ((y1 : Nat) : Int) 8) (
    .need ((0 : Int) ≤ 6) <|
    .need ((0 : Nat) ≤ 6) <|
    .need ((6 : Nat) ≤ y1) <|
    .need ((0 : Nat) = 0 ∨ (0 : Nat) < y1) <|
    .need ((0 : Int) < 2) <|
    .need ((y1 : Nat) < 8) <|
    .need ((0 + 6 : Nat) ≤ y1) <|
    .need (((8 : Nat) * 56 : Nat) ≤ 2 ^ 40) <|
    .need ((8 : Nat) ≤ 2 ^ 40) <|
    .all fun j2 =>
    .need ((0 : Int) ≤ 6) <|
    .need ((6 : Nat) ≤ 8) <|
    let y3 : Nat := (8 + j2)
    .need ((6 : Nat) = 0 ∨ (6 : Nat) < y3) <|
    .need (((0 : Nat) + 1 : Nat) ≤ 1) <|
    .need ((6 + 2 : Nat) ≤ y3) <|
    .need ((0 : Int) ≤ 7) <|
    .need ((7 : Nat) ≤ 8) <|
    .need ((7 : Nat) = 0 ∨ (7 : Nat) < y3) <|
    .need ((0 : Int) ≤ 6) <|
    .need ((6 : Nat) ≤ 7) <|
    .need ((6 : Nat) = 0 ∨ (6 : Nat) < y1) <|
    .need (((6 : Nat) + 1 : Nat) ≤ y1) <|
    .need ((7 + 1 : Nat) ≤ y3) <|
    .need (((0 : Nat) + 8 : Nat) ≤ y3) <|
    let y4 : (Bool × (Bool × Bool)) := (false, (false, false))
    let y5 : (Int × (Bool × (Bool × (Bool × Bool)))) := (0, (false, y4))
    let y6 : (Int × (Int × (Int × (Bool × (Int × (Int × (Int × (Int × (Int × (Int × (Bool × (Bool × (Bool × Bool))))))))))))) := (0, (0, (137, (false, ((-1), (1, (0, (0, (1, y5)))))))))
    let y7 : (Int × (Int × (Int × (Bool × (Int × (Int × (Int × (Int × (Int × (Int × (Bool × (Bool × (Bool × Bool))))))))))))) := (0, (0, (139, (false, ((-1), (1, (0, (0, (2, y5)))))))))
    let y8 : DForm := (fn33 y0)
    let y9 : (Int × (Int × (Int × (Bool × (Int × (Int × (Int × (Int × (Int × (Int × (Bool × (Bool × (Bool × Bool))))))))))))) := (0, (0, (184, (true, ((-1), (1, (0, (8, (7, (8, (true, y4)))))))))))
    let y10 : (Int × (Bool × (Bool × (Bool × Bool)))) := (0, (false, (false, (true, false))))
    let y11 : (Int × (Int × (Int × (Bool × (Int × (Int × (Int × (Int × (Int × (Int × (Bool × (Bool × (Bool × Bool))))))))))))) := (0, (0, (136, (false, ((-1), (1, (0, (1, (1, y10)))))))))
    let y12 : (Int × (Int × (Int × (Bool × (Int × (Int × (Int × (Int × (Int × (Int × (Bool × (Bool × (Bool × Bool))))))))))))) := (0, (0, (138, (false, ((-1), (1, (0, (1, (2, y10)))))))))
    let y13 : DForm := (fn33 y2)
    let y14 : (Int × (Int × (Int × (Bool × (Int × (Int × (Int × (Int × (Int × (Int × (Bool × (Bool × (Bool × Bool))))))))))))) := (0, (0, (141, (false, ((-1), (2, (0, (0, (2, (0, (false, (false, (false, true)))))))))))))
    .ret [y6, y7, y8, y9, y11, y12, y13, y14]) (
    .need ((0 : Int) ≤ 8) <|
    .need ((0 : Nat) ≤ 8) <|
    .need ((8 : Nat) ≤ y1) <|
    .need ((0 : Nat) = 0 ∨ (0 : Nat) < y1) <|
    .need ((0 : Int) ≤ 7) <|
    .need ((7 : Nat) ≤ 8) <|
    .need ((7 : Nat) = 0 ∨ (7 : Nat) < y1) <|
    .need ((0 : Nat) < (y1 * 14)) <|
    .need ((0 : Int) ≤ 7) <|
    .need ((7 : Nat) ≤ 8) <|
    .need ((7 : Nat) = 0 ∨ (7 : Nat) < y1) <|
    .need ((0 : Int) ≤ 6) <|
    .need ((6 : Nat) ≤ 8) <|
    .need ((6 : Nat) = 0 ∨ (6 : Nat) < y1) <|
    .need (((6 : Nat) + 2 : Nat) ≤ y1) <|
    .need ((7 + 1 : Nat) ≤ y1) <|
    .need ((0 : Int) ≤ 6) <|
    .need ((6 : Nat) ≤ 8) <|
    .need ((6 : Nat) = 0 ∨ (6 : Nat) < y1) <|
    .need (((0 : Nat) + 1 : Nat) ≤ 1) <|
    .need ((6 + 2 : Nat) ≤ y1) <|
    .need (((0 : Nat) + 8 : Nat) ≤ y1) <|
    let y15 : (Bool × (Bool × Bool)) := (false, (false, false))
    let y16 : (Int × (Bool × (Bool × (Bool × Bool)))) := (0, (false, y15))
    let y17 : (Int × (Int × (Int × (Bool × (Int × (Int × (Int × (Int × (Int × (Int × (Bool × (Bool × (Bool × Bool))))))))))))) := (0, (0, (137, (false, ((-1), (1, (0, (0, (1, y16)))))))))
    let y18 : (Int × (Int × (Int × (Bool × (Int × (Int × (Int × (Int × (Int × (Int × (Bool × (Bool × (Bool × Bool))))))))))))) := (0, (0, (139, (false, ((-1), (1, (0, (0, (2, y16)))))))))
    let y19 : DForm := (fn33 y0)
    let y20 : (Int × (Int × (Int × (Bool × (Int × (Int × (Int × (Int × (Int × (Int × (Bool × (Bool × (Bool × Bool))))))))))))) := (0, (0, (184, (true, ((-1), (1, (0, (8, (7, (8, (true, y15)))))))))))
    let y21 : (Int × (Bool × (Bool × (Bool × Bool)))) := (0, (false, (false, (true, false))))
    let y22 : (Int × (Int × (Int × (Bool × (Int × (Int × (Int × (Int × (Int × (Int × (Bool × (Bool × (Bool × Bool))))))))))))) := (0, (0, (136, (false, ((-1), (1, (0, (1, (1, y21)))))))))
    let y23 : (Int × (Int × (Int × (Bool × (Int × (Int × (Int × (Int × (Int × (Int × (Bool × (Bool × (Bool × Bool))))))))))))) := (0, (0, (138, (false, ((-1), (1, (0, (1, (2, y21)))))))))
    let y24 : (Int × (Int × (Int × (Bool × (Int × (Int × (Int × (Int × (Int × (Int × (Bool × (Bool × (Bool × Bool))))))))))))) := (0, (0, (141, (false, ((-1), (2, (0, (0, (2, (0, (false, (false, (false, true)))))))))))))
    let y25 : (List DForm) := (List.replicate j1 (0, (0, (0, (false, (0, (0, (0, (0, (0, y16))))))))))
    let y26 : DForm := (fn33 y2)
    .ret ((spliceL (spliceL ([y17, y18, y19, y20, y22, y23, y24] ++ y25) 7 ((([y24] ++ y25).take 2).take 1)) 6 [y26]).take 8))
noncomputable def fn29 (x : Unit) : (List DForm) := (tree29 x).val
def pre29 (x : Unit) : Prop := (tree29 x).ok
noncomputable def spec29 : Spec := { dom := .unit, cod := (.slice CForm), n := 1, pre := pre29, f := fn29 }
theorem run29 (W : Cfg) (Q : (List DForm) → Prop) (x : Unit) : run (env tab33 (fun _ _ => none)) (fun _ _ _ => none) (finS spec29 Q) W 100000 (startFr 29 Tryd.f29 (bodyOf Tryd.f29) (argsOf .unit x)) [] [] = (tree29 x).wp Q := by kernel_rfl
theorem ok29 : SpecOk env0 29 spec29 := SpecOk.env rfl (fun _ _ h => h) (spec_of_tree (E := (env tab33 (fun _ _ => none))) (sp := spec29) (valid _ _) (fun f sp h => SpecOk.env rfl (fun _ _ h => h) (tab33_ok f sp h)) (fn := Tryd.f29) (c := (bodyOf Tryd.f29)) (by kernel_rfl) (by kernel_rfl) tree29 run29 (fun _ h => Tr.gives_val h))

noncomputable def tab29 : FuncId → Option Spec
  | 29 => some spec29
  | f => tab33 f
theorem tab29_ok : ∀ f sp, tab29 f = some sp → SpecOk env0 f sp := by
  intro f sp h
  unfold tab29 at h
  split at h
  · cases h; exact ok29
  · exact tab33_ok f sp h

/-! ### sundial/codes.sums -/
noncomputable def tree30 (_x : Unit) : Tr (List DForm) :=
  .need ((0 : Int) ≤ 0) <|
  .need ((0 : Int) < 8) <|
  .need ((0 : Nat) < 8) <|
  .need ((0 : Nat) < 2) <|
  .need ((1 : Nat) < 2) <|
  .need ((0 : Int) ≤ 0) <|
  .need (0 < (2 : Int)) <|
  .need ((0 : Nat) < 2) <|
  .need ((0 : Int) ≤ 1) <|
  .need (1 < (2 : Int)) <|
  .need ((1 : Nat) < 2) <|
  .need (((0 : Nat) + 2 : Nat) ≤ 2) <|
  .need (((2 : Nat) * 56 : Nat) ≤ 2 ^ 40) <|
  .need ((2 : Nat) ≤ 2 ^ 40) <|
  .need ((0 : Int) ≤ 1) <|
  .need ((1 : Int) < 8) <|
  .need ((1 : Nat) < 8) <|
  .need ((0 : Nat) < 2) <|
  .need ((1 : Nat) < 2) <|
  .need ((0 : Int) ≤ 0) <|
  .need (0 < (2 : Int)) <|
  .need ((0 : Nat) < 2) <|
  .need ((0 : Int) ≤ 1) <|
  .need (1 < (2 : Int)) <|
  .need ((1 : Nat) < 2) <|
  .need (((0 : Nat) + 2 : Nat) ≤ 2) <|
  .need ((2 : Nat) = 2) <|
  .need (((4 : Nat) * 56 : Nat) ≤ 2 ^ 40) <|
  .need ((4 : Nat) ≤ 2 ^ 40) <|
  .need ((0 : Int) ≤ 2) <|
  .need ((2 : Int) < 8) <|
  .need ((2 : Nat) < 8) <|
  .need ((0 : Nat) < 2) <|
  .need ((1 : Nat) < 2) <|
  .need ((0 : Int) ≤ 0) <|
  .need (0 < (2 : Int)) <|
  .need ((0 : Nat) < 2) <|
  .need ((0 : Int) ≤ 1) <|
  .need (1 < (2 : Int)) <|
  .need ((1 : Nat) < 2) <|
  .need (((0 : Nat) + 2 : Nat) ≤ 2) <|
  .need ((4 : Nat) = 4) <|
  .need (((6 : Nat) * 56 : Nat) ≤ 2 ^ 40) <|
  .need ((6 : Nat) ≤ 2 ^ 40) <|
  .need ((0 : Int) ≤ 3) <|
  .need ((3 : Int) < 8) <|
  .need ((3 : Nat) < 8) <|
  .need ((0 : Nat) < 2) <|
  .need ((1 : Nat) < 2) <|
  .need ((0 : Int) ≤ 0) <|
  .need (0 < (2 : Int)) <|
  .need ((0 : Nat) < 2) <|
  .need ((0 : Int) ≤ 1) <|
  .need (1 < (2 : Int)) <|
  .need ((1 : Nat) < 2) <|
  .need (((0 : Nat) + 2 : Nat) ≤ 2) <|
  .need ((6 : Nat) = 6) <|
  .need (((8 : Nat) * 56 : Nat) ≤ 2 ^ 40) <|
  .need ((8 : Nat) ≤ 2 ^ 40) <|
  .need ((0 : Int) ≤ 4) <|
  .need ((4 : Int) < 8) <|
  .need ((4 : Nat) < 8) <|
  .need ((0 : Nat) < 2) <|
  .need ((1 : Nat) < 2) <|
  .need ((0 : Int) ≤ 0) <|
  .need (0 < (2 : Int)) <|
  .need ((0 : Nat) < 2) <|
  .need ((0 : Int) ≤ 1) <|
  .need (1 < (2 : Int)) <|
  .need ((1 : Nat) < 2) <|
  .need (((0 : Nat) + 2 : Nat) ≤ 2) <|
  .need ((8 : Nat) = 8) <|
  .need (((10 : Nat) * 56 : Nat) ≤ 2 ^ 40) <|
  .need ((10 : Nat) ≤ 2 ^ 40) <|
  .need ((0 : Int) ≤ 5) <|
  .need ((5 : Int) < 8) <|
  .need ((5 : Nat) < 8) <|
  .need ((0 : Nat) < 2) <|
  .need ((1 : Nat) < 2) <|
  .need ((0 : Int) ≤ 0) <|
  .need (0 < (2 : Int)) <|
  .need ((0 : Nat) < 2) <|
  .need ((0 : Int) ≤ 1) <|
  .need (1 < (2 : Int)) <|
  .need ((1 : Nat) < 2) <|
  .need (((0 : Nat) + 2 : Nat) ≤ 2) <|
  .need ((10 : Nat) = 10) <|
  .need (((12 : Nat) * 56 : Nat) ≤ 2 ^ 40) <|
  .need ((12 : Nat) ≤ 2 ^ 40) <|
  .need ((0 : Int) ≤ 6) <|
  .need ((6 : Int) < 8) <|
  .need ((6 : Nat) < 8) <|
  .need ((0 : Nat) < 2) <|
  .need ((1 : Nat) < 2) <|
  .need ((0 : Int) ≤ 0) <|
  .need (0 < (2 : Int)) <|
  .need ((0 : Nat) < 2) <|
  .need ((0 : Int) ≤ 1) <|
  .need (1 < (2 : Int)) <|
  .need ((1 : Nat) < 2) <|
  .need (((0 : Nat) + 2 : Nat) ≤ 2) <|
  .need ((12 : Nat) = 12) <|
  .need (((14 : Nat) * 56 : Nat) ≤ 2 ^ 40) <|
  .need ((14 : Nat) ≤ 2 ^ 40) <|
  .need ((0 : Int) ≤ 7) <|
  .need ((7 : Int) < 8) <|
  .need ((7 : Nat) < 8) <|
  .need ((0 : Nat) < 2) <|
  .need ((1 : Nat) < 2) <|
  .need ((0 : Int) ≤ 0) <|
  .need (0 < (2 : Int)) <|
  .need ((0 : Nat) < 2) <|
  .need ((0 : Int) ≤ 1) <|
  .need (1 < (2 : Int)) <|
  .need ((1 : Nat) < 2) <|
  .need (((0 : Nat) + 2 : Nat) ≤ 2) <|
  .need ((14 : Nat) = 14) <|
  .need (((16 : Nat) * 56 : Nat) ≤ 2 ^ 40) <|
  .need ((16 : Nat) ≤ 2 ^ 40) <|
  .need ((0 : Int) ≤ 0) <|
  .need ((0 : Int) < 8) <|
  .need ((0 : Nat) < 8) <|
  .need ((0 : Nat) < 2) <|
  .need ((1 : Nat) < 2) <|
  .need (((0 : Nat) + 2 : Nat) ≤ 2) <|
  .need ((16 : Nat) = 16) <|
  .need (((18 : Nat) * 56 : Nat) ≤ 2 ^ 40) <|
  .need ((18 : Nat) ≤ 2 ^ 40) <|
  .need ((0 : Int) ≤ 1) <|
  .need ((1 : Int) < 8) <|
  .need ((1 : Nat) < 8) <|
  .need ((0 : Nat) < 2) <|
  .need ((1 : Nat) < 2) <|
  .need (((0 : Nat) + 2 : Nat) ≤ 2) <|
  .need ((18 : Nat) = 18) <|
  .need (((20 : Nat) * 56 : Nat) ≤ 2 ^ 40) <|
  .need ((20 : Nat) ≤ 2 ^ 40) <|
  .need ((0 : Int) ≤ 2) <|
  .need ((2 : Int) < 8) <|
  .need ((2 : Nat) < 8) <|
  .need ((0 : Nat) < 2) <|
  .need ((1 : Nat) < 2) <|
  .need (((0 : Nat) + 2 : Nat) ≤ 2) <|
  .need ((20 : Nat) = 20) <|
  .need (((22 : Nat) * 56 : Nat) ≤ 2 ^ 40) <|
  .need ((22 : Nat) ≤ 2 ^ 40) <|
  .need ((0 : Int) ≤ 3) <|
  .need ((3 : Int) < 8) <|
  .need ((3 : Nat) < 8) <|
  .need ((0 : Nat) < 2) <|
  .need ((1 : Nat) < 2) <|
  .need (((0 : Nat) + 2 : Nat) ≤ 2) <|
  .need ((22 : Nat) = 22) <|
  .need (((24 : Nat) * 56 : Nat) ≤ 2 ^ 40) <|
  .need ((24 : Nat) ≤ 2 ^ 40) <|
  .need ((0 : Int) ≤ 4) <|
  .need ((4 : Int) < 8) <|
  .need ((4 : Nat) < 8) <|
  .need ((0 : Nat) < 2) <|
  .need ((1 : Nat) < 2) <|
  .need (((0 : Nat) + 2 : Nat) ≤ 2) <|
  .need ((24 : Nat) = 24) <|
  .need (((26 : Nat) * 56 : Nat) ≤ 2 ^ 40) <|
  .need ((26 : Nat) ≤ 2 ^ 40) <|
  .need ((0 : Int) ≤ 5) <|
  .need ((5 : Int) < 8) <|
  .need ((5 : Nat) < 8) <|
  .need ((0 : Nat) < 2) <|
  .need ((1 : Nat) < 2) <|
  .need (((0 : Nat) + 2 : Nat) ≤ 2) <|
  .need ((26 : Nat) = 26) <|
  .need (((28 : Nat) * 56 : Nat) ≤ 2 ^ 40) <|
  .need ((28 : Nat) ≤ 2 ^ 40) <|
  .need ((0 : Int) ≤ 6) <|
  .need ((6 : Int) < 8) <|
  .need ((6 : Nat) < 8) <|
  .need ((0 : Nat) < 2) <|
  .need ((1 : Nat) < 2) <|
  .need (((0 : Nat) + 2 : Nat) ≤ 2) <|
  .need ((28 : Nat) = 28) <|
  .need (((30 : Nat) * 56 : Nat) ≤ 2 ^ 40) <|
  .need ((30 : Nat) ≤ 2 ^ 40) <|
  .need ((0 : Int) ≤ 7) <|
  .need ((7 : Int) < 8) <|
  .need ((7 : Nat) < 8) <|
  .need ((0 : Nat) < 2) <|
  .need ((1 : Nat) < 2) <|
  .need (((0 : Nat) + 2 : Nat) ≤ 2) <|
  .need ((30 : Nat) = 30) <|
  .need (((32 : Nat) * 56 : Nat) ≤ 2 ^ 40) <|
  .need ((32 : Nat) ≤ 2 ^ 40) <|
  .need ((0 : Nat) < 1) <|
  .need ((0 : Int) ≤ 0) <|
  .need (0 < (1 : Int)) <|
  .need ((0 : Nat) < 1) <|
  .need (((0 : Nat) + 1 : Nat) ≤ 1) <|
  .need ((32 : Nat) = 32) <|
  .need (((33 : Nat) * 56 : Nat) ≤ 2 ^ 40) <|
  .need ((33 : Nat) ≤ 2 ^ 40) <|
  .need ((0 : Nat) < 1) <|
  .need (((0 : Nat) + 1 : Nat) ≤ 1) <|
  .need ((33 : Nat) = 33) <|
  .need (((34 : Nat) * 56 : Nat) ≤ 2 ^ 40) <|
  .need ((34 : Nat) ≤ 2 ^ 40) <|
  .need ((0 : Nat) < 6) <|
  .need ((1 : Nat) < 6) <|
  .need ((2 : Nat) < 6) <|
  .need ((3 : Nat) < 6) <|
  .need ((4 : Nat) < 6) <|
  .need ((5 : Nat) < 6) <|
  .need ((0 : Int) ≤ 0) <|
  .need ((0 : Int) < 6) <|
  .need ((0 : Nat) < 6) <|
  .need ((0 : Nat) < 1) <|
  .need (((0 : Nat) + 1 : Nat) ≤ 1) <|
  .need ((34 : Nat) = 34) <|
  .need (((35 : Nat) * 56 : Nat) ≤ 2 ^ 40) <|
  .need ((35 : Nat) ≤ 2 ^ 40) <|
  .need ((0 : Int) ≤ 1) <|
  .need ((1 : Int) < 6) <|
  .need ((1 : Nat) < 6) <|
  .need ((0 : Nat) < 1) <|
  .need (((0 : Nat) + 1 : Nat) ≤ 1) <|
  .need ((35 : Nat) = 35) <|
  .need (((36 : Nat) * 56 : Nat) ≤ 2 ^ 40) <|
  .need ((36 : Nat) ≤ 2 ^ 40) <|
  .need ((0 : Int) ≤ 2) <|
  .need ((2 : Int) < 6) <|
  .need ((2 : Nat) < 6) <|
  .need ((0 : Nat) < 1) <|
  .need (((0 : Nat) + 1 : Nat) ≤ 1) <|
  .need ((36 : Nat) = 36) <|
  .need (((37 : Nat) * 56 : Nat) ≤ 2 ^ 40) <|
  .need ((37 : Nat) ≤ 2 ^ 40) <|
  .need ((0 : Int) ≤ 3) <|
  .need ((3 : Int) < 6) <|
  .need ((3 : Nat) < 6) <|
  .need ((0 : Nat) < 1) <|
  .need (((0 : Nat) + 1 : Nat) ≤ 1) <|
  .need ((37 : Nat) = 37) <|
  .need (((38 : Nat) * 56 : Nat) ≤ 2 ^ 40) <|
  .need ((38 : Nat) ≤ 2 ^ 40) <|
  .need ((0 : Int) ≤ 4) <|
  .need ((4 : Int) < 6) <|
  .need ((4 : Nat) < 6) <|
  .need ((0 : Nat) < 1) <|
  .need (((0 : Nat) + 1 : Nat) ≤ 1) <|
  .need ((38 : Nat) = 38) <|
  .need (((39 : Nat) * 56 : Nat) ≤ 2 ^ 40) <|
  .need ((39 : Nat) ≤ 2 ^ 40) <|
  .need ((0 : Int) ≤ 5) <|
  .need ((5 : Int) < 6) <|
  .need ((5 : Nat) < 6) <|
  .need ((0 : Nat) < 1) <|
  .need (((0 : Nat) + 1 : Nat) ≤ 1) <|
  .need ((39 : Nat) = 39) <|
  .need (((40 : Nat) * 56 : Nat) ≤ 2 ^ 40) <|
  .need ((40 : Nat) ≤ 2 ^ 40) <|
  .need ((0 : Nat) < 8) <|
  .need ((1 : Nat) < 8) <|
  .need ((4 : Nat) < 8) <|
  .need ((5 : Nat) < 8) <|
  .need ((7 : Nat) < 8) <|
  .need ((0 : Int) ≤ 0) <|
  .need ((0 : Int) < 8) <|
  .need ((0 : Nat) < 8) <|
  .need ((0 : Nat) < 2) <|
  .need ((1 : Nat) < 2) <|
  .need (((0 : Nat) + 2 : Nat) ≤ 2) <|
  .need ((40 : Nat) = 40) <|
  .need (((42 : Nat) * 56 : Nat) ≤ 2 ^ 40) <|
  .need ((42 : Nat) ≤ 2 ^ 40) <|
  .need ((0 : Int) ≤ 1) <|
  .need ((1 : Int) < 8) <|
  .need ((1 : Nat) < 8) <|
  .need ((0 : Nat) < 2) <|
  .need ((1 : Nat) < 2) <|
  .need (((0 : Nat) + 2 : Nat) ≤ 2) <|
  .need ((42 : Nat) = 42) <|
  .need (((44 : Nat) * 56 : Nat) ≤ 2 ^ 40) <|
  .need ((44 : Nat) ≤ 2 ^ 40) <|
  .need ((0 : Int) ≤ 2) <|
  .need ((2 : Int) < 8) <|
  .need ((2 : Nat) < 8) <|
  .need ((0 : Int) ≤ 3) <|
  .need ((3 : Int) < 8) <|
  .need ((3 : Nat) < 8) <|
  .need ((0 : Int) ≤ 4) <|
  .need ((4 : Int) < 8) <|
  .need ((4 : Nat) < 8) <|
  .need ((0 : Nat) < 2) <|
  .need ((1 : Nat) < 2) <|
  .need (((0 : Nat) + 2 : Nat) ≤ 2) <|
  .need ((44 : Nat) = 44) <|
  .need (((46 : Nat) * 56 : Nat) ≤ 2 ^ 40) <|
  .need ((46 : Nat) ≤ 2 ^ 40) <|
  .need ((0 : Int) ≤ 5) <|
  .need ((5 : Int) < 8) <|
  .need ((5 : Nat) < 8) <|
  .need ((0 : Nat) < 2) <|
  .need ((1 : Nat) < 2) <|
  .need (((0 : Nat) + 2 : Nat) ≤ 2) <|
  .need ((46 : Nat) = 46) <|
  .need (((48 : Nat) * 56 : Nat) ≤ 2 ^ 40) <|
  .need ((48 : Nat) ≤ 2 ^ 40) <|
  .need ((0 : Int) ≤ 6) <|
  .need ((6 : Int) < 8) <|
  .need ((6 : Nat) < 8) <|
  .need ((0 : Int) ≤ 7) <|
  .need ((7 : Int) < 8) <|
  .need ((7 : Nat) < 8) <|
  .need ((0 : Nat) < 2) <|
  .need ((1 : Nat) < 2) <|
  .need (((0 : Nat) + 2 : Nat) ≤ 2) <|
  .need ((48 : Nat) = 48) <|
  .need (((50 : Nat) * 56 : Nat) ≤ 2 ^ 40) <|
  .need ((50 : Nat) ≤ 2 ^ 40) <|
  .need ((0 : Nat) < 1) <|
  .need ((0 : Int) ≤ 0) <|
  .need (0 < (1 : Int)) <|
  .need ((0 : Nat) < 1) <|
  .need (((0 : Nat) + 1 : Nat) ≤ 1) <|
  .need ((50 : Nat) = 50) <|
  .need (((51 : Nat) * 56 : Nat) ≤ 2 ^ 40) <|
  .need ((51 : Nat) ≤ 2 ^ 40) <|
  .need (((0 : Nat) + 51 : Nat) ≤ 51) <|
  let y0 : (Bool × (Bool × (Bool × Bool))) := (false, (false, (false, false)))
  let y1 : (Int × (Bool × (Bool × (Bool × Bool)))) := (0, y0)
  let y2 : (Int × (Int × (Int × (Int × (Bool × (Bool × (Bool × Bool))))))) := (0, (0, (1, y1)))
  let y3 : (Int × (Int × (Int × (Int × (Bool × (Bool × (Bool × Bool))))))) := (0, (0, (2, y1)))
  let y4 : (Int × (Int × (Int × (Int × (Bool × (Bool × (Bool × Bool))))))) := (0, (0, (4, (1, y0))))
  let y5 : (Int × (Int × (Int × (Int × (Bool × (Bool × (Bool × Bool))))))) := (0, (0, (4, (4, y0))))
  let y6 : (Int × (Int × (Int × (Int × (Bool × (Bool × (Bool × Bool))))))) := (0, (0, (3, y1)))
  let y7 : (Int × (Int × (Int × (Int × (Bool × (Bool × (Bool × Bool))))))) := (0, (0, (5, y1)))
  .ret [(0, (0, (1, (false, ((-1), (3, y2)))))), (0, (0, (3, (false, ((-1), (3, y3)))))), (0, (0, (9, (false, ((-1), (4, y2)))))), (0, (0, (11, (false, ((-1), (4, y3)))))), (0, (0, (17, (false, ((-1), (5, y2)))))), (0, (0, (19, (false, ((-1), (5, y3)))))), (0, (0, (25, (false, ((-1), (6, y2)))))), (0, (0, (27, (false, ((-1), (6, y3)))))), (0, (0, (33, (false, ((-1), (7, y2)))))), (0, (0, (35, (false, ((-1), (7, y3)))))), (0, (0, (41, (false, ((-1), (8, y2)))))), (0, (0, (43, (false, ((-1), (8, y3)))))), (0, (0, (49, (false, ((-1), (9, y2)))))), (0, (0, (51, (false, ((-1), (9, y3)))))), (0, (0, (57, (false, ((-1), (10, y2)))))), (0, (0, (59, (false, ((-1), (10, y3)))))), (0, (0, (131, (false, (0, (3, y4)))))), (0, (0, (129, (false, (0, (3, y5)))))), (0, (0, (131, (false, (1, (4, y4)))))), (0, (0, (129, (false, (1, (4, y5)))))), (0, (0, (131, (false, (2, (5, y4)))))), (0, (0, (129, (false, (2, (5, y5)))))), (0, (0, (131, (false, (3, (6, y4)))))), (0, (0, (129, (false, (3, (6, y5)))))), (0, (0, (131, (false, (4, (7, y4)))))), (0, (0, (129, (false, (4, (7, y5)))))), (0, (0, (131, (false, (5, (8, y4)))))), (0, (0, (129, (false, (5, (8, y5)))))), (0, (0, (131, (false, (6, (9, y4)))))), (0, (0, (129, (false, (6, (9, y5)))))), (0, (0, (131, (false, (7, (10, y4)))))), (0, (0, (129, (false, (7, (10, y5)))))), (0, (0, (133, (false, ((-1), (11, y2)))))), (0, (0, (247, (false, (0, (11, y5)))))), (0, (0, (255, (false, (0, (12, y6)))))), (0, (0, (255, (false, (1, (13, y6)))))), (0, (0, (247, (false, (2, (15, y6)))))), (0, (0, (247, (false, (3, (14, y6)))))), (0, (0, (247, (false, (4, (22, y6)))))), (0, (0, (247, (false, (6, (23, y6)))))), (0, (0, (193, (false, (0, (19, y4)))))), (0, (0, (211, (false, (0, (19, y7)))))), (0, (0, (193, (false, (1, (20, y4)))))), (0, (0, (211, (false, (1, (20, y7)))))), (0, (0, (193, (false, (4, (16, y4)))))), (0, (0, (211, (false, (4, (16, y7)))))), (0, (0, (193, (false, (5, (17, y4)))))), (0, (0, (211, (false, (5, (17, y7)))))), (0, (0, (193, (false, (7, (18, y4)))))), (0, (0, (211, (false, (7, (18, y7)))))), (0, (1, (175, (false, ((-1), (21, y3))))))]
noncomputable def fn30 (x : Unit) : (List DForm) := (tree30 x).val
def pre30 (x : Unit) : Prop := (tree30 x).ok
noncomputable def spec30 : Spec := { dom := .unit, cod := (.slice CForm), n := 1, pre := pre30, f := fn30 }
theorem run30 (W : Cfg) (Q : (List DForm) → Prop) (x : Unit) : run (env tab29 (fun _ _ => none)) (fun _ _ _ => none) (finS spec30 Q) W 100000 (startFr 30 Tryd.f30 (bodyOf Tryd.f30) (argsOf .unit x)) [] [] = (tree30 x).wp Q := by kernel_rfl
theorem ok30 : SpecOk env0 30 spec30 := SpecOk.env rfl (fun _ _ h => h) (spec_of_tree (E := (env tab29 (fun _ _ => none))) (sp := spec30) (valid _ _) (fun f sp h => SpecOk.env rfl (fun _ _ h => h) (tab29_ok f sp h)) (fn := Tryd.f30) (c := (bodyOf Tryd.f30)) (by kernel_rfl) (by kernel_rfl) tree30 run30 (fun _ h => Tr.gives_val h))

noncomputable def tab30 : FuncId → Option Spec
  | 30 => some spec30
  | f => tab29 f
theorem tab30_ok : ∀ f sp, tab30 f = some sp → SpecOk env0 f sp := by
  intro f sp h
  unfold tab30 at h
  split at h
  · cases h; exact ok30
  · exact tab29_ok f sp h

/-! ### sundial/codes.flows$1 -/
noncomputable def tree36 (x : (Int × (Int × (Int × (Int × Int))))) : Tr DForm :=
  let y0 : (Int × (Int × Int)) := x.2.2
  let y1 : (Int × Int) := y0.2
  .ret (0, (x.1, (x.2.1, (false, ((-1), (y0.1, (y1.1, (8, (8, (y1.2, (false, (false, (false, false)))))))))))))
noncomputable def fn36 (x : (Int × (Int × (Int × (Int × Int))))) : DForm := (tree36 x).val
def pre36 (x : (Int × (Int × (Int × (Int × Int))))) : Prop := (tree36 x).ok
noncomputable def spec36 : Spec := { dom := (.st (.int .u8) (.st (.int .u8) (.st (.int .u8) (.st (.int .u8) (.st1 (.int .i64)))))), cod := CForm, n := 1, pre := pre36, f := fn36 }
theorem run36 (W : Cfg) (Q : DForm → Prop) (x : (Int × (Int × (Int × (Int × Int))))) : run (env tab30 (fun _ _ => none)) (fun _ _ _ => none) (finS spec36 Q) W 100000 (startFr 36 Tryd.f36 (bodyOf Tryd.f36) (argsOf (.st (.int .u8) (.st (.int .u8) (.st (.int .u8) (.st (.int .u8) (.st1 (.int .i64)))))) x)) [] [] = (tree36 x).wp Q := by kernel_rfl
theorem ok36 : SpecOk env0 36 spec36 := SpecOk.env rfl (fun _ _ h => h) (spec_of_tree (E := (env tab30 (fun _ _ => none))) (sp := spec36) (valid _ _) (fun f sp h => SpecOk.env rfl (fun _ _ h => h) (tab30_ok f sp h)) (fn := Tryd.f36) (c := (bodyOf Tryd.f36)) (by kernel_rfl) (by kernel_rfl) tree36 run36 (fun _ h => Tr.gives_val h))

noncomputable def tab36 : FuncId → Option Spec
  | 36 => some spec36
  | f => tab30 f
theorem tab36_ok : ∀ f sp, tab36 f = some sp → SpecOk env0 f sp := by
  intro f sp h
  unfold tab36 at h
  split at h
  · cases h; exact ok36
  · exact tab30_ok f sp h

/-! ### slices.Concat[[]sundial/api.Form,sundial/api.Form] -/
inductive J37 where
  | h0 (v1 : Int) (v3 : Int) (v4 : Int)
  | h1 (v1 : Nat) (v2 : Nat) (v4 : Int) (v5 : Int) (v6 : Nat) (v7 : (List DForm))
  | h2 (v1 : Int) (v2 : Int)
noncomputable def tree37 (x : (List (List DForm))) : Tr (J37 ⊕ (List DForm)) :=
  .ret (.inl (.h0 0 (x.length : Int) 0))
noncomputable def step37 (x : (List (List DForm))) : J37 → Tr (J37 ⊕ (List DForm))
  | .h0 v1 v3 v4 =>
    .ite (ilt v4 v3) (
      .need ((0 : Int) ≤ v4) <|
      .need (v4 < (x.length : Int)) <|
      let y0 : Int := (iadd .i64 v1 ((rdc (.slice CForm) x (v4).toNat).length : Int))
      .ite (ilt y0 0) (
        .fail (.inr (TC.dflt (.slice CForm)))) (
        .ret (.inl (.h0 y0 v3 (iadd .i64 v4 1))))) (
      .ite (ilt v1 0) (
        .fail (.inr (TC.dflt (.slice CForm)))) (
        let y1 : Int := (isub .i64 v1 0)
        .ite (ilt 0 y1) (
          .need ((0 : Int) = 0) <|
          .need ((0 : Nat) = 0) <|
          .need ((0 : Int) < y1) <|
          let y2 : Nat := (y1).toNat
          .need (((y2 : Nat) * 56 : Nat) ≤ 2 ^ 40) <|
          .need ((y2 : Nat) ≤ 2 ^ 40) <|
          .all fun j3 =>
          .need ((0 : Int) ≤ 0) <|
          .need ((0 : Nat) ≤ 0) <|
          let y3 : Nat := (y2 + j3)
          .need ((0 : Nat) ≤ y3) <|
          .need ((0 : Nat) = 0 ∨ (0 : Nat) < y3) <|
          let y4 : (Int × (Int × (Int × (Bool × (Int × (Int × (Int × (Int × (Int × (Int × (Bool × (Bool × (Bool × Bool))))))))))))) := (0, (0, (0, (false, (0, (0, (0, (0, (0, (0, (false, (false, (false, false)))))))))))))
          .ret (.inl (.h1 0 y3 (x.length : Int) 0 y3 ((List.replicate y2 y4) ++ (List.replicate j3 y4))))) (
          .ret (.inl (.h2 (x.length : Int) 0)))))
  | .h1 v1 v2 v4 v5 v6 v7 =>
    .ite (ilt v5 v4) (
      .need ((0 : Int) ≤ v5) <|
      .need (v5 < (x.length : Int)) <|
      let y0 : (List DForm) := (rdc (.slice CForm) x (v5).toNat)
      let y1 : Nat := y0.length
      let y2 : Nat := (v1 + y1)
      .ite (ilt ((v2 : Nat) : Int) ((y2 : Nat) : Int)) (
        .need ((0 + v1 : Nat) ≤ v6) <|
        .need (((y2 : Nat) * 56 : Nat) ≤ 2 ^ 40) <|
        .need ((y2 : Nat) ≤ 2 ^ 40) <|
        .all fun j3 =>
        let y3 : Nat := (y2 + j3)
        let y4 : Int := (iadd .i64 v5 1)
        let y5 : (List DForm) := (v7.take v1)
        .ret (.inl (.h1 y2 y3 v4 y4 y3 ((y5 ++ y0) ++ (List.replicate j3 (0, (0, (0, (false, (0, (0, (0, (0, (0, (0, (false, (false, (false, false)))))))))))))))))) (
        .need ((0 + v1 + y1 : Nat) ≤ v6) <|
        let y6 : Int := (iadd .i64 v5 1)
        .ret (.inl (.h1 y2 v2 v4 y6 v6 (spliceL v7 (0 + v1) y0))))) (
      .need (((0 : Nat) + v1 : Nat) ≤ v6) <|
      let y7 : (List DForm) := (v7.take v1)
      .ret (.inr y7))
  | .h2 v1 v2 =>
    .ite (ilt v2 v1) (
      .need ((0 : Int) ≤ v2) <|
      .need (v2 < (x.length : Int)) <|
      let y0 : (List DForm) := (rdc (.slice CForm) x (v2).toNat)
      let y1 : Nat := y0.length
      .ite (ieq (y1 : Int) 0) (
        let y2 : Int := (iadd .i64 v2 1)
        .ret (.inl (.h2 v1 y2))) (
        .need (((y1 : Nat) * 56 : Nat) ≤ 2 ^ 40) <|
        .need ((y1 : Nat) ≤ 2 ^ 40) <|
        .all fun j3 =>
        let y3 : Nat := (y1 + j3)
        let y4 : Int := (iadd .i64 v2 1)
        .ret (.inl (.h1 y1 y3 v1 y4 y3 (y0 ++ (List.replicate j3 (0, (0, (0, (false, (0, (0, (0, (0, (0, (0, (false, (false, (false, false))))))))))))))))))) (
      .ret (.inr ([] : List DForm)))
noncomputable def head37 (x : (List (List DForm))) : J37 → Head
  | .h0 v1 v3 v4 =>
    { fr := { id := 37, kind := .top, T := [(.fsl (.slice CForm) x), .any, .any, (.int .i64 v1)] ++ List.replicate 5 .any ++ [(.fsl (.slice CForm) x), (.int .i64 v3), (.int .i64 v4)] ++ List.replicate 24 .any, items := [.lp (subc [1, 1, 0, 1, 0, 0] (bodyOf Tryd.f37)), .blk 0, .code (subc [1, 1, 1] (bodyOf Tryd.f37))], D := [], base := 0 },
      stk := [],
      H := [] }
  | .h1 v1 v2 v4 v5 v6 v7 =>
    { fr := { id := 37, kind := .top, T := List.replicate 6 .any ++ [(.osl 0 [] 14 0 v1 (some v2))] ++ List.replicate 18 .any ++ [(.fsl (.slice CForm) x), (.int .i64 v4), (.int .i64 v5)] ++ List.replicate 8 .any, items := [.lp (subc [1, 1, 1, 1, 0, 1, 0, 0] (bodyOf Tryd.f37)), .blk 2, .code (subc [1, 1, 1, 1, 1] (bodyOf Tryd.f37))], D := [], base := 0 },
      stk := [],
      H := [.cell true 23 (.arr v6 CForm v7)] }
  | .h2 v1 v2 =>
    { fr := { id := 37, kind := .top, T := List.replicate 6 .any ++ [(.raw (.slice none 0 0))] ++ List.replicate 18 .any ++ [(.fsl (.slice CForm) x), (.int .i64 v1), (.int .i64 v2)] ++ List.replicate 8 .any, items := [.lp (subc [1, 1, 1, 1, 0, 1, 0, 0] (bodyOf Tryd.f37)), .blk 2, .code (subc [1, 1, 1, 1, 1] (bodyOf Tryd.f37))], D := [], base := 0 },
      stk := [],
      H := [] }
noncomputable def stop37 : FuncId → Nat → Nat → Option Cut
  | 37, 0, 0 => some { tmps := [0, 3, 9, 10, 11], loops := [], dead := [] }
  | 37, 4, 0 => some { tmps := [6, 25, 26, 27], loops := [], dead := [] }
  | _, _, _ => none
noncomputable def fn37 (x : (List (List DForm))) : (List DForm) := endVal (TC.dflt (.slice CForm)) (step37 x) (tree37 x)
def pre37 (x : (List (List DForm))) : Prop := ∃ r, Ends (step37 x) r (tree37 x)
noncomputable def spec37 : Spec := { dom := (.st1 (.slice (.slice CForm))), cod := (.slice CForm), n := 1, pre := pre37, f := fn37 }
theorem run37 (W : Cfg) (Q : (List DForm) → Prop) (x : (List (List DForm))) : run (env tab36 (fun _ _ => none)) stop37 (finS spec37 Q) W 100000 (startFr 37 Tryd.f37 (bodyOf Tryd.f37) (argsOf (.st1 (.slice (.slice CForm))) x)) [] [] = (tree37 x).wp (kont W Q (head37 x)) := by kernel_rfl
theorem run37h0 (W : Cfg) (Q : (List DForm) → Prop) (x : (List (List DForm))) (v1 : Int) (v3 : Int) (v4 : Int) : run (env tab36 (fun _ _ => none)) stop37 (finS spec37 Q) W 100000 (head37 x (.h0 v1 v3 v4)).fr.enter (head37 x (.h0 v1 v3 v4)).stk (head37 x (.h0 v1 v3 v4)).H = (step37 x (.h0 v1 v3 v4)).wp (kont W Q (head37 x)) := by kernel_rfl
theorem run37h1 (W : Cfg) (Q : (List DForm) → Prop) (x : (List (List DForm))) (v1 : Nat) (v2 : Nat) (v4 : Int) (v5 : Int) (v6 : Nat) (v7 : (List DForm)) : run (env tab36 (fun _ _ => none)) stop37 (finS spec37 Q) W 100000 (head37 x (.h1 v1 v2 v4 v5 v6 v7)).fr.enter (head37 x (.h1 v1 v2 v4 v5 v6 v7)).stk (head37 x (.h1 v1 v2 v4 v5 v6 v7)).H = (step37 x (.h1 v1 v2 v4 v5 v6 v7)).wp (kont W Q (head37 x)) := by kernel_rfl
theorem run37h2 (W : Cfg) (Q : (List DForm) → Prop) (x : (List (List DForm))) (v1 : Int) (v2 : Int) : run (env tab36 (fun _ _ => none)) stop37 (finS spec37 Q) W 100000 (head37 x (.h2 v1 v2)).fr.enter (head37 x (.h2 v1 v2)).stk (head37 x (.h2 v1 v2)).H = (step37 x (.h2 v1 v2)).wp (kont W Q (head37 x)) := by kernel_rfl
theorem runs37 (W : Cfg) (Q : (List DForm) → Prop) (x : (List (List DForm))) : ∀ j : J37, run (env tab36 (fun _ _ => none)) stop37 (finS spec37 Q) W 100000 (head37 x j).fr.enter (head37 x j).stk (head37 x j).H = (step37 x j).wp (kont W Q (head37 x))
  | .h0 v1 v3 v4 => run37h0 W Q x v1 v3 v4
  | .h1 v1 v2 v4 v5 v6 v7 => run37h1 W Q x v1 v2 v4 v5 v6 v7
  | .h2 v1 v2 => run37h2 W Q x v1 v2
theorem ok37 : SpecOk env0 37 spec37 := SpecOk.env rfl (fun _ _ h => h) (spec_of_trees (E := (env tab36 (fun _ _ => none))) (sp := spec37) (valid _ _) (fun f sp h => SpecOk.env rfl (fun _ _ h => h) (tab36_ok f sp h)) (fn := Tryd.f37) (c := (bodyOf Tryd.f37)) (by kernel_rfl) (by kernel_rfl) tree37 step37 head37 run37 runs37 (fun _ h => endVal_ends h))

noncomputable def tab37 : FuncId → Option Spec
  | 37 => some spec37
  | f => tab36 f
theorem tab37_ok : ∀ f sp, tab37 f = some sp → SpecOk env0 f sp := by
  intro f sp h
  unfold tab37 at h
  split at h
  · cases h; exact ok37
  · exact tab36_ok f sp h

/-! ### sundial/codes.flows -/
noncomputable def tree31 (_x : Unit) : Tr (List DForm) :=
  let y0 : (Int × Int) := (0, 4)
  let y1 : (Int × (Int × (Int × (Int × Int)))) := (0, (232, (26, y0)))
  .need (pre36 y1) <|
  let y2 : (Int × (Int × (Int × (Int × Int)))) := (0, (233, (28, y0)))
  .need (pre36 y2) <|
  let y3 : (Int × Int) := (0, 1)
  let y4 : (Int × (Int × (Int × (Int × Int)))) := (0, (235, (28, y3)))
  .need (pre36 y4) <|
  .need ((0 : Nat) < 7) <|
  .need ((1 : Nat) < 7) <|
  .need ((2 : Nat) < 7) <|
  .need ((3 : Nat) < 7) <|
  .need ((4 : Nat) < 7) <|
  .need ((5 : Nat) < 7) <|
  .need ((6 : Nat) < 7) <|
  let y5 : (Int × (Int × (Int × (Int × Int)))) := (1, (128, (29, y0)))
  .need (pre36 y5) <|
  let y6 : (Int × (Int × (Int × (Int × Int)))) := (0, (112, (29, y3)))
  .need (pre36 y6) <|
  .need ((0 : Nat) < 2) <|
  .need ((1 : Nat) < 2) <|
  .need (((0 : Nat) + 2 : Nat) ≤ 2) <|
  .need ((0 + 7 : Nat) ≤ 7) <|
  .need (((9 : Nat) * 56 : Nat) ≤ 2 ^ 40) <|
  .need ((9 : Nat) ≤ 2 ^ 40) <|
  .need ((0 : Nat) < 1) <|
  .need (((0 : Nat) + 1 : Nat) ≤ 1) <|
  .need (((1 : Nat) * 56 : Nat) ≤ 2 ^ 40) <|
  .need ((1 : Nat) ≤ 2 ^ 40) <|
  .need ((0 : Nat) < 1) <|
  .need (((0 : Nat) + 1 : Nat) ≤ 1) <|
  .need (((1 : Nat) * 56 : Nat) ≤ 2 ^ 40) <|
  .need ((1 : Nat) ≤ 2 ^ 40) <|
  let y7 : (Int × (Int × (Int × (Int × Int)))) := (1, (129, (29, (1, 4))))
  .need (pre36 y7) <|
  let y8 : (Int × (Int × (Int × (Int × Int)))) := (0, (113, (29, (1, 1))))
  .need (pre36 y8) <|
  .need ((0 : Nat) < 2) <|
  .need ((1 : Nat) < 2) <|
  .need (((0 : Nat) + 2 : Nat) ≤ 2) <|
  .need ((9 : Nat) = 9) <|
  .need (((11 : Nat) * 56 : Nat) ≤ 2 ^ 40) <|
  .need ((11 : Nat) ≤ 2 ^ 40) <|
  .need ((0 : Nat) < 1) <|
  .need (((0 : Nat) + 1 : Nat) ≤ 1) <|
  .need ((1 : Nat) = 1) <|
  .need (((2 : Nat) * 56 : Nat) ≤ 2 ^ 40) <|
  .need ((2 : Nat) ≤ 2 ^ 40) <|
  .need ((0 : Nat) < 1) <|
  .need (((0 : Nat) + 1 : Nat) ≤ 1) <|
  .need ((1 : Nat) = 1) <|
  .need (((2 : Nat) * 56 : Nat) ≤ 2 ^ 40) <|
  .need ((2 : Nat) ≤ 2 ^ 40) <|
  let y9 : (Int × (Int × (Int × (Int × Int)))) := (1, (130, (29, (2, 4))))
  .need (pre36 y9) <|
  let y10 : (Int × (Int × (Int × (Int × Int)))) := (0, (114, (29, (2, 1))))
  .need (pre36 y10) <|
  .need ((0 : Nat) < 2) <|
  .need ((1 : Nat) < 2) <|
  .need (((0 : Nat) + 2 : Nat) ≤ 2) <|
  .need ((11 : Nat) = 11) <|
  .need (((13 : Nat) * 56 : Nat) ≤ 2 ^ 40) <|
  .need ((13 : Nat) ≤ 2 ^ 40) <|
  .need ((0 : Nat) < 1) <|
  .need (((0 : Nat) + 1 : Nat) ≤ 1) <|
  .need ((2 : Nat) = 2) <|
  .need (((3 : Nat) * 56 : Nat) ≤ 2 ^ 40) <|
  .need ((3 : Nat) ≤ 2 ^ 40) <|
  .need ((0 : Nat) < 1) <|
  .need (((0 : Nat) + 1 : Nat) ≤ 1) <|
  .need ((2 : Nat) = 2) <|
  .need (((3 : Nat) * 56 : Nat) ≤ 2 ^ 40) <|
  .need ((3 : Nat) ≤ 2 ^ 40) <|
  let y11 : (Int × (Int × (Int × (Int × Int)))) := (1, (131, (29, (3, 4))))
  .need (pre36 y11) <|
  let y12 : (Int × (Int × (Int × (Int × Int)))) := (0, (115, (29, (3, 1))))
  .need (pre36 y12) <|
  .need ((0 : Nat) < 2) <|
  .need ((1 : Nat) < 2) <|
  .need (((0 : Nat) + 2 : Nat) ≤ 2) <|
  .need ((13 : Nat) = 13) <|
  .need (((15 : Nat) * 56 : Nat) ≤ 2 ^ 40) <|
  .need ((15 : Nat) ≤ 2 ^ 40) <|
  .need ((0 : Nat) < 1) <|
  .need (((0 : Nat) + 1 : Nat) ≤ 1) <|
  .need ((3 : Nat) = 3) <|
  .need (((4 : Nat) * 56 : Nat) ≤ 2 ^ 40) <|
  .need ((4 : Nat) ≤ 2 ^ 40) <|
  .need ((0 : Nat) < 1) <|
  .need (((0 : Nat) + 1 : Nat) ≤ 1) <|
  .need ((3 : Nat) = 3) <|
  .need (((4 : Nat) * 56 : Nat) ≤ 2 ^ 40) <|
  .need ((4 : Nat) ≤ 2 ^ 40) <|
  let y13 : (Int × (Int × (Int × (Int × Int)))) := (1, (132, (29, (4, 4))))
  .need (pre36 y13) <|
  let y14 : (Int × (Int × (Int × (Int × Int)))) := (0, (116, (29, (4, 1))))
  .need (pre36 y14) <|
  .need ((0 : Nat) < 2) <|
  .need ((1 : Nat) < 2) <|
  .need (((0 : Nat) + 2 : Nat) ≤ 2) <|
  .need ((15 : Nat) = 15) <|
  .need (((17 : Nat) * 56 : Nat) ≤ 2 ^ 40) <|
  .need ((17 : Nat) ≤ 2 ^ 40) <|
  .need ((0 : Nat) < 1) <|
  .need (((0 : Nat) + 1 : Nat) ≤ 1) <|
  .need ((4 : Nat) = 4) <|
  .need (((5 : Nat) * 56 : Nat) ≤ 2 ^ 40) <|
  .need ((5 : Nat) ≤ 2 ^ 40) <|
  .need ((0 : Nat) < 1) <|
  .need (((0 : Nat) + 1 : Nat) ≤ 1) <|
  .need ((4 : Nat) = 4) <|
  .need (((5 : Nat) * 56 : Nat) ≤ 2 ^ 40) <|
  .need ((5 : Nat) ≤ 2 ^ 40) <|
  let y15 : (Int × (Int × (Int × (Int × Int)))) := (1, (133, (29, (5, 4))))
  .need (pre36 y15) <|
  let y16 : (Int × (Int × (Int × (Int × Int)))) := (0, (117, (29, (5, 1))))
  .need (pre36 y16) <|
  .need ((0 : Nat) < 2) <|
  .need ((1 : Nat) < 2) <|
  .need (((0 : Nat) + 2 : Nat) ≤ 2) <|
  .need ((17 : Nat) = 17) <|
  .need (((19 : Nat) * 56 : Nat) ≤ 2 ^ 40) <|
  .need ((19 : Nat) ≤ 2 ^ 40) <|
  .need ((0 : Nat) < 1) <|
  .need (((0 : Nat) + 1 : Nat) ≤ 1) <|
  .need ((5 : Nat) = 5) <|
  .need (((6 : Nat) * 56 : Nat) ≤ 2 ^ 40) <|
  .need ((6 : Nat) ≤ 2 ^ 40) <|
  .need ((0 : Nat) < 1) <|
  .need (((0 : Nat) + 1 : Nat) ≤ 1) <|
  .need ((5 : Nat) = 5) <|
  .need (((6 : Nat) * 56 : Nat) ≤ 2 ^ 40) <|
  .need ((6 : Nat) ≤ 2 ^ 40) <|
  let y17 : (Int × (Int × (Int × (Int × Int)))) := (1, (134, (29, (6, 4))))
  .need (pre36 y17) <|
  let y18 : (Int × (Int × (Int × (Int × Int)))) := (0, (118, (29, (6, 1))))
  .need (pre36 y18) <|
  .need ((0 : Nat) < 2) <|
  .need ((1 : Nat) < 2) <|
  .need (((0 : Nat) + 2 : Nat) ≤ 2) <|
  .need ((19 : Nat) = 19) <|
  .need (((21 : Nat) * 56 : Nat) ≤ 2 ^ 40) <|
  .need ((21 : Nat) ≤ 2 ^ 40) <|
  .need ((0 : Nat) < 1) <|
  .need (((0 : Nat) + 1 : Nat) ≤ 1) <|
  .need ((6 : Nat) = 6) <|
  .need (((7 : Nat) * 56 : Nat) ≤ 2 ^ 40) <|
  .need ((7 : Nat) ≤ 2 ^ 40) <|
  .need ((0 : Nat) < 1) <|
  .need (((0 : Nat) + 1 : Nat) ≤ 1) <|
  .need ((6 : Nat) = 6) <|
  .need (((7 : Nat) * 56 : Nat) ≤ 2 ^ 40) <|
  .need ((7 : Nat) ≤ 2 ^ 40) <|
  let y19 : (Int × (Int × (Int × (Int × Int)))) := (1, (135, (29, (7, 4))))
  .need (pre36 y19) <|
  let y20 : (Int × (Int × (Int × (Int × Int)))) := (0, (119, (29, (7, 1))))
  .need (pre36 y20) <|
  .need ((0 : Nat) < 2) <|
  .need ((1 : Nat) < 2) <|
  .need (((0 : Nat) + 2 : Nat) ≤ 2) <|
  .need ((21 : Nat) = 21) <|
  .need (((23 : Nat) * 56 : Nat) ≤ 2 ^ 40) <|
  .need ((23 : Nat) ≤ 2 ^ 40) <|
  .need ((0 : Nat) < 1) <|
  .need (((0 : Nat) + 1 : Nat) ≤ 1) <|
  .need ((7 : Nat) = 7) <|
  .need (((8 : Nat) * 56 : Nat) ≤ 2 ^ 40) <|
  .need ((8 : Nat) ≤ 2 ^ 40) <|
  .need ((0 : Nat) < 1) <|
  .need (((0 : Nat) + 1 : Nat) ≤ 1) <|
  .need ((7 : Nat) = 7) <|
  .need (((8 : Nat) * 56 : Nat) ≤ 2 ^ 40) <|
  .need ((8 : Nat) ≤ 2 ^ 40) <|
  let y21 : (Int × (Int × (Int × (Int × Int)))) := (1, (136, (29, (8, 4))))
  .need (pre36 y21) <|
  let y22 : (Int × (Int × (Int × (Int × Int)))) := (0, (120, (29, (8, 1))))
  .need (pre36 y22) <|
  .need ((0 : Nat) < 2) <|
  .need ((1 : Nat) < 2) <|
  .need (((0 : Nat) + 2 : Nat) ≤ 2) <|
  .need ((23 : Nat) = 23) <|
  .need (((25 : Nat) * 56 : Nat) ≤ 2 ^ 40) <|
  .need ((25 : Nat) ≤ 2 ^ 40) <|
  .need ((0 : Nat) < 1) <|
  .need (((0 : Nat) + 1 : Nat) ≤ 1) <|
  .need ((8 : Nat) = 8) <|
  .need (((9 : Nat) * 56 : Nat) ≤ 2 ^ 40) <|
  .need ((9 : Nat) ≤ 2 ^ 40) <|
  .need ((0 : Nat) < 1) <|
  .need (((0 : Nat) + 1 : Nat) ≤ 1) <|
  .need ((8 : Nat) = 8) <|
  .need (((9 : Nat) * 56 : Nat) ≤ 2 ^ 40) <|
  .need ((9 : Nat) ≤ 2 ^ 40) <|
  let y23 : (Int × (Int × (Int × (Int × Int)))) := (1, (137, (29, (9, 4))))
  .need (pre36 y23) <|
  let y24 : (Int × (Int × (Int × (Int × Int)))) := (0, (121, (29, (9, 1))))
  .need (pre36 y24) <|
  .need ((0 : Nat) < 2) <|
  .need ((1 : Nat) < 2) <|
  .need (((0 : Nat) + 2 : Nat) ≤ 2) <|
  .need ((25 : Nat) = 25) <|
  .need (((27 : Nat) * 56 : Nat) ≤ 2 ^ 40) <|
  .need ((27 : Nat) ≤ 2 ^ 40) <|
  .need ((0 : Nat) < 1) <|
  .need (((0 : Nat) + 1 : Nat) ≤ 1) <|
  .need ((9 : Nat) = 9) <|
  .need (((10 : Nat) * 56 : Nat) ≤ 2 ^ 40) <|
  .need ((10 : Nat) ≤ 2 ^ 40) <|
  .need ((0 : Nat) < 1) <|
  .need (((0 : Nat) + 1 : Nat) ≤ 1) <|
  .need ((9 : Nat) = 9) <|
  .need (((10 : Nat) * 56 : Nat) ≤ 2 ^ 40) <|
  .need ((10 : Nat) ≤ 2 ^ 40) <|
  let y25 : (Int × (Int × (Int × (Int × Int)))) := (1, (138, (29, (10, 4))))
  .need (pre36 y25) <|
  let y26 : (Int × (Int × (Int × (Int × Int)))) := (0, (122, (29, (10, 1))))
  .need (pre36 y26) <|
  .need ((0 : Nat) < 2) <|
  .need ((1 : Nat) < 2) <|
  .need (((0 : Nat) + 2 : Nat) ≤ 2) <|
  .need ((27 : Nat) = 27) <|
  .need (((29 : Nat) * 56 : Nat) ≤ 2 ^ 40) <|
  .need ((29 : Nat) ≤ 2 ^ 40) <|
  .need ((0 : Nat) < 1) <|
  .need (((0 : Nat) + 1 : Nat) ≤ 1) <|
  .need ((10 : Nat) = 10) <|
  .need (((11 : Nat) * 56 : Nat) ≤ 2 ^ 40) <|
  .need ((11 : Nat) ≤ 2 ^ 40) <|
  .need ((0 : Nat) < 1) <|
  .need (((0 : Nat) + 1 : Nat) ≤ 1) <|
  .need ((10 : Nat) = 10) <|
  .need (((11 : Nat) * 56 : Nat) ≤ 2 ^ 40) <|
  .need ((11 : Nat) ≤ 2 ^ 40) <|
  let y27 : (Int × (Int × (Int × (Int × Int)))) := (1, (139, (29, (11, 4))))
  .need (pre36 y27) <|
  let y28 : (Int × (Int × (Int × (Int × Int)))) := (0, (123, (29, (11, 1))))
  .need (pre36 y28) <|
  .need ((0 : Nat) < 2) <|
  .need ((1 : Nat) < 2) <|
  .need (((0 : Nat) + 2 : Nat) ≤ 2) <|
  .need ((29 : Nat) = 29) <|
  .need (((31 : Nat) * 56 : Nat) ≤ 2 ^ 40) <|
  .need ((31 : Nat) ≤ 2 ^ 40) <|
  .need ((0 : Nat) < 1) <|
  .need (((0 : Nat) + 1 : Nat) ≤ 1) <|
  .need ((11 : Nat) = 11) <|
  .need (((12 : Nat) * 56 : Nat) ≤ 2 ^ 40) <|
  .need ((12 : Nat) ≤ 2 ^ 40) <|
  .need ((0 : Nat) < 1) <|
  .need (((0 : Nat) + 1 : Nat) ≤ 1) <|
  .need ((11 : Nat) = 11) <|
  .need (((12 : Nat) * 56 : Nat) ≤ 2 ^ 40) <|
  .need ((12 : Nat) ≤ 2 ^ 40) <|
  let y29 : (Int × (Int × (Int × (Int × Int)))) := (1, (140, (29, (12, 4))))
  .need (pre36 y29) <|
  let y30 : (Int × (Int × (Int × (Int × Int)))) := (0, (124, (29, (12, 1))))
  .need (pre36 y30) <|
  .need ((0 : Nat) < 2) <|
  .need ((1 : Nat) < 2) <|
  .need (((0 : Nat) + 2 : Nat) ≤ 2) <|
  .need ((31 : Nat) = 31) <|
  .need (((33 : Nat) * 56 : Nat) ≤ 2 ^ 40) <|
  .need ((33 : Nat) ≤ 2 ^ 40) <|
  .need ((0 : Nat) < 1) <|
  .need (((0 : Nat) + 1 : Nat) ≤ 1) <|
  .need ((12 : Nat) = 12) <|
  .need (((13 : Nat) * 56 : Nat) ≤ 2 ^ 40) <|
  .need ((13 : Nat) ≤ 2 ^ 40) <|
  .need ((0 : Nat) < 1) <|
  .need (((0 : Nat) + 1 : Nat) ≤ 1) <|
  .need ((12 : Nat) = 12) <|
  .need (((13 : Nat) * 56 : Nat) ≤ 2 ^ 40) <|
  .need ((13 : Nat) ≤ 2 ^ 40) <|
  let y31 : (Int × (Int × (Int × (Int × Int)))) := (1, (141, (29, (13, 4))))
  .need (pre36 y31) <|
  let y32 : (Int × (Int × (Int × (Int × Int)))) := (0, (125, (29, (13, 1))))
  .need (pre36 y32) <|
  .need ((0 : Nat) < 2) <|
  .need ((1 : Nat) < 2) <|
  .need (((0 : Nat) + 2 : Nat) ≤ 2) <|
  .need ((33 : Nat) = 33) <|
  .need (((35 : Nat) * 56 : Nat) ≤ 2 ^ 40) <|
  .need ((35 : Nat) ≤ 2 ^ 40) <|
  .need ((0 : Nat) < 1) <|
  .need (((0 : Nat) + 1 : Nat) ≤ 1) <|
  .need ((13 : Nat) = 13) <|
  .need (((14 : Nat) * 56 : Nat) ≤ 2 ^ 40) <|
  .need ((14 : Nat) ≤ 2 ^ 40) <|
  .need ((0 : Nat) < 1) <|
  .need (((0 : Nat) + 1 : Nat) ≤ 1) <|
  .need ((13 : Nat) = 13) <|
  .need (((14 : Nat) * 56 : Nat) ≤ 2 ^ 40) <|
  .need ((14 : Nat) ≤ 2 ^ 40) <|
  let y33 : (Int × (Int × (Int × (Int × Int)))) := (1, (142, (29, (14, 4))))
  .need (pre36 y33) <|
  let y34 : (Int × (Int × (Int × (Int × Int)))) := (0, (126, (29, (14, 1))))
  .need (pre36 y34) <|
  .need ((0 : Nat) < 2) <|
  .need ((1 : Nat) < 2) <|
  .need (((0 : Nat) + 2 : Nat) ≤ 2) <|
  .need ((35 : Nat) = 35) <|
  .need (((37 : Nat) * 56 : Nat) ≤ 2 ^ 40) <|
  .need ((37 : Nat) ≤ 2 ^ 40) <|
  .need ((0 : Nat) < 1) <|
  .need (((0 : Nat) + 1 : Nat) ≤ 1) <|
  .need ((14 : Nat) = 14) <|
  .need (((15 : Nat) * 56 : Nat) ≤ 2 ^ 40) <|
  .need ((15 : Nat) ≤ 2 ^ 40) <|
  .need ((0 : Nat) < 1) <|
  .need (((0 : Nat) + 1 : Nat) ≤ 1) <|
  .need ((14 : Nat) = 14) <|
  .need (((15 : Nat) * 56 : Nat) ≤ 2 ^ 40) <|
  .need ((15 : Nat) ≤ 2 ^ 40) <|
  let y35 : (Int × (Int × (Int × (Int × Int)))) := (1, (143, (29, (15, 4))))
  .need (pre36 y35) <|
  let y36 : (Int × (Int × (Int × (Int × Int)))) := (0, (127, (29, (15, 1))))
  .need (pre36 y36) <|
  .need ((0 : Nat) < 2) <|
  .need ((1 : Nat) < 2) <|
  .need (((0 : Nat) + 2 : Nat) ≤ 2) <|
  .need ((37 : Nat) = 37) <|
  .need (((39 : Nat) * 56 : Nat) ≤ 2 ^ 40) <|
  .need ((39 : Nat) ≤ 2 ^ 40) <|
  .need ((0 : Nat) < 1) <|
  .need (((0 : Nat) + 1 : Nat) ≤ 1) <|
  .need ((15 : Nat) = 15) <|
  .need (((16 : Nat) * 56 : Nat) ≤ 2 ^ 40) <|
  .need ((16 : Nat) ≤ 2 ^ 40) <|
  .need ((0 : Nat) < 1) <|
  .need (((0 : Nat) + 1 : Nat) ≤ 1) <|
  .need ((15 : Nat) = 15) <|
  .need (((16 : Nat) * 56 : Nat) ≤ 2 ^ 40) <|
  .need ((16 : Nat) ≤ 2 ^ 40) <|
  .need (((0 : Nat) + 39 : Nat) ≤ 39) <|
  .need (((0 : Nat) + 16 : Nat) ≤ 16) <|
  .need (((0 : Nat) + 16 : Nat) ≤ 16) <|
  .need ((0 : Nat) < 3) <|
  .need ((1 : Nat) < 3) <|
  .need ((2 : Nat) < 3) <|
  .need (((0 : Nat) + 3 : Nat) ≤ 3) <|
  let y37 : (Int × (Bool × (Bool × (Bool × Bool)))) := (0, (false, (false, (false, false))))
  let y38 : (Int × (Int × (Int × (Int × (Bool × (Bool × (Bool × Bool))))))) := (0, (8, (6, y37)))
  let y39 : (Int × (Int × (Int × (Bool × (Bool × (Bool × Bool)))))) := (0, (2, y37))
  let y40 : (Int × (Int × (Int × (Bool × (Bool × (Bool × Bool)))))) := (1, (3, (0, (false, (false, (true, false))))))
  let y41 : (List (List DForm)) := [[(0, (0, (80, (true, ((-1), (24, y38)))))), (0, (0, (88, (true, ((-1), (25, y38)))))), (fn36 y1), (0, (0, (195, (false, ((-1), (27, (0, (8, (0, y37))))))))), (fn36 y2), (fn36 y4), (0, (0, (255, (false, (4, (28, (0, (8, (3, y37))))))))), (fn36 y5), (fn36 y6), (fn36 y7), (fn36 y8), (fn36 y9), (fn36 y10), (fn36 y11), (fn36 y12), (fn36 y13), (fn36 y14), (fn36 y15), (fn36 y16), (fn36 y17), (fn36 y18), (fn36 y19), (fn36 y20), (fn36 y21), (fn36 y22), (fn36 y23), (fn36 y24), (fn36 y25), (fn36 y26), (fn36 y27), (fn36 y28), (fn36 y29), (fn36 y30), (fn36 y31), (fn36 y32), (fn36 y33), (fn36 y34), (fn36 y35), (fn36 y36)], [(0, (1, (64, (false, ((-1), (30, (0, y39))))))), (0, (1, (65, (false, ((-1), (30, (1, y39))))))), (0, (1, (66, (false, ((-1), (30, (2, y39))))))), (0, (1, (67, (false, ((-1), (30, (3, y39))))))), (0, (1, (68, (false, ((-1), (30, (4, y39))))))), (0, (1, (69, (false, ((-1), (30, (5, y39))))))), (0, (1, (70, (false, ((-1), (30, (6, y39))))))), (0, (1, (71, (false, ((-1), (30, (7, y39))))))), (0, (1, (72, (false, ((-1), (30, (8, y39))))))), (0, (1, (73, (false, ((-1), (30, (9, y39))))))), (0, (1, (74, (false, ((-1), (30, (10, y39))))))), (0, (1, (75, (false, ((-1), (30, (11, y39))))))), (0, (1, (76, (false, ((-1), (30, (12, y39))))))), (0, (1, (77, (false, ((-1), (30, (13, y39))))))), (0, (1, (78, (false, ((-1), (30, (14, y39))))))), (0, (1, (79, (false, ((-1), (30, (15, y39)))))))], [(0, (1, (144, (false, (0, (31, (0, y40))))))), (0, (1, (145, (false, (0, (31, (1, y40))))))), (0, (1, (146, (false, (0, (31, (2, y40))))))), (0, (1, (147, (false, (0, (31, (3, y40))))))), (0, (1, (148, (false, (0, (31, (4, y40))))))), (0, (1, (149, (false, (0, (31, (5, y40))))))), (0, (1, (150, (false, (0, (31, (6, y40))))))), (0, (1, (151, (false, (0, (31, (7, y40))))))), (0, (1, (152, (false, (0, (31, (8, y40))))))), (0, (1, (153, (false, (0, (31, (9, y40))))))), (0, (1, (154, (false, (0, (31, (10, y40))))))), (0, (1, (155, (false, (0, (31, (11, y40))))))), (0, (1, (156, (false, (0, (31, (12, y40))))))), (0, (1, (157, (false, (0, (31, (13, y40))))))), (0, (1, (158, (false, (0, (31, (14, y40))))))), (0, (1, (159, (false, (0, (31, (15, y40)))))))]]
  .need (pre37 y41) <|
  .ret (fn37 y41)
noncomputable def fn31 (x : Unit) : (List DForm) := (tree31 x).val
def pre31 (x : Unit) : Prop := (tree31 x).ok
noncomputable def spec31 : Spec := { dom := .unit, cod := (.slice CForm), n := 1, pre := pre31, f := fn31 }
theorem run31 (W : Cfg) (Q : (List DForm) → Prop) (x : Unit) : run (env tab37 (fun _ _ => none)) (fun _ _ _ => none) (finS spec31 Q) W 100000 (startFr 31 Tryd.f31 (bodyOf Tryd.f31) (argsOf .unit x)) [] [] = (tree31 x).wp Q := by kernel_rfl
theorem ok31 : SpecOk env0 31 spec31 := SpecOk.env rfl (fun _ _ h => h) (spec_of_tree (E := (env tab37 (fun _ _ => none))) (sp := spec31) (valid _ _) (fun f sp h => SpecOk.env rfl (fun _ _ h => h) (tab37_ok f sp h)) (fn := Tryd.f31) (c := (bodyOf Tryd.f31)) (by kernel_rfl) (by kernel_rfl) tree31 run31 (fun _ h => Tr.gives_val h))

noncomputable def tab31 : FuncId → Option Spec
  | 31 => some spec31
  | f => tab37 f
theorem tab31_ok : ∀ f sp, tab31 f = some sp → SpecOk env0 f sp := by
  intro f sp h
  unfold tab31 at h
  split at h
  · cases h; exact ok31
  · exact tab37_ok f sp h

/-! ### sundial/codes.others$1 -/
noncomputable def tree38 (x : (Int × (Int × (Int × (Int × (Int × Int)))))) : Tr DForm :=
  let y0 : (Int × (Int × (Int × Int))) := x.2.2
  let y1 : (Int × (Int × Int)) := y0.2
  let y2 : (Int × Int) := y1.2
  .ret (x.1, (x.2.1, (y0.1, (false, (0, (y1.1, (0, (16, (y2.1, (y2.2, (false, (true, (false, false)))))))))))))
noncomputable def fn38 (x : (Int × (Int × (Int × (Int × (Int × Int)))))) : DForm := (tree38 x).val
def pre38 (x : (Int × (Int × (Int × (Int × (Int × Int)))))) : Prop := (tree38 x).ok
noncomputable def spec38 : Spec := { dom := (.st (.int .u8) (.st (.int .u8) (.st (.int .u8) (.st (.int .u8) (.st (.int .u8) (.st1 (.int .i64))))))), cod := CForm, n := 1, pre := pre38, f := fn38 }
theorem run38 (W : Cfg) (Q : DForm → Prop) (x : (Int × (Int × (Int × (Int × (Int × Int)))))) : run (env tab31 (fun _ _ => none)) (fun _ _ _ => none) (finS spec38 Q) W 100000 (startFr 38 Tryd.f38 (bodyOf Tryd.f38) (argsOf (.st (.int .u8) (.st (.int .u8) (.st (.int .u8) (.st (.int .u8) (.st (.int .u8) (.st1 (.int .i64))))))) x)) [] [] = (tree38 x).wp Q := by kernel_rfl
theorem ok38 : SpecOk env0 38 spec38 := SpecOk.env rfl (fun _ _ h => h) (spec_of_tree (E := (env tab31 (fun _ _ => none))) (sp := spec38) (valid _ _) (fun f sp h => SpecOk.env rfl (fun _ _ h => h) (tab31_ok f sp h)) (fn := Tryd.f38) (c := (bodyOf Tryd.f38)) (by kernel_rfl) (by kernel_rfl) tree38 run38 (fun _ h => Tr.gives_val h))

noncomputable def tab38 : FuncId → Option Spec
  | 38 => some spec38
  | f => tab31 f
theorem tab38_ok : ∀ f sp, tab38 f = some sp → SpecOk env0 f sp := by
  intro f sp h
  unfold tab38 at h
  split at h
  · cases h; exact ok38
  · exact tab31_ok f sp h

/-! ### sundial/codes.others -/
noncomputable def tree32 (_x : Unit) : Tr (List DForm) :=
  let y0 : (Int × Int) := (2, 0)
  let y1 : (Int × (Int × (Int × (Int × (Int × Int))))) := (243, (1, (111, (35, y0))))
  .need (pre38 y1) <|
  let y2 : (Int × (Int × (Int × (Int × (Int × Int))))) := (243, (1, (127, (35, (1, 0)))))
  .need (pre38 y2) <|
  let y3 : (Int × (Int × (Int × (Int × (Int × Int))))) := (102, (1, (239, (36, y0))))
  .need (pre38 y3) <|
  let y4 : (Int × (Int × (Int × (Int × (Int × Int))))) := (102, (2, (220, (37, y0))))
  .need (pre38 y4) <|
  let y5 : (Int × (Int × (Int × (Int × (Int × Int))))) := (102, (2, (221, (38, y0))))
  .need (pre38 y5) <|
  let y6 : (Int × (Int × (Int × (Int × (Int × Int))))) := (102, (3, (68, (39, (2, 1)))))
  .need (pre38 y6) <|
  .need ((0 : Nat) < 9) <|
  .need ((1 : Nat) < 9) <|
  .need ((2 : Nat) < 9) <|
  .need ((3 : Nat) < 9) <|
  .need ((4 : Nat) < 9) <|
  .need ((5 : Nat) < 9) <|
  .need ((6 : Nat) < 9) <|
  .need ((7 : Nat) < 9) <|
  .need ((8 : Nat) < 9) <|
  .need ((0 : Int) ≤ 0) <|
  .need (0 < (9 : Int)) <|
  .need ((0 : Nat) < 9) <|
  .need ((0 : Int) ≤ 1) <|
  .need (1 < (9 : Int)) <|
  .need ((1 : Nat) < 9) <|
  .need ((0 : Int) ≤ 2) <|
  .need (2 < (9 : Int)) <|
  .need ((2 : Nat) < 9) <|
  .need ((0 : Int) ≤ 3) <|
  .need (3 < (9 : Int)) <|
  .need ((3 : Nat) < 9) <|
  .need ((0 : Int) ≤ 4) <|
  .need (4 < (9 : Int)) <|
  .need ((4 : Nat) < 9) <|
  .need ((0 : Int) ≤ 5) <|
  .need (5 < (9 : Int)) <|
  .need ((5 : Nat) < 9) <|
  .need ((0 : Int) ≤ 6) <|
  .need (6 < (9 : Int)) <|
  .need ((6 : Nat) < 9) <|
  .need ((0 : Int) ≤ 7) <|
  .need (7 < (9 : Int)) <|
  .need ((7 : Nat) < 9) <|
  .need ((0 : Int) ≤ 8) <|
  .need (8 < (9 : Int)) <|
  .need ((8 : Nat) < 9) <|
  .need (((0 : Nat) + 9 : Nat) ≤ 9) <|
  let y7 : (Int × (Int × (Int × (Int × (Bool × (Bool × (Bool × Bool))))))) := (0, (0, (2, (0, (false, (false, (true, false)))))))
  let y8 : DForm := (fn38 y1)
  let y9 : (Int × (Int × (Bool × (Int × (Int × (Int × (Int × (Int × (Int × (Bool × (Bool × (Bool × Bool)))))))))))) := y8.2
  let y10 : (Int × (Bool × (Int × (Int × (Int × (Int × (Int × (Int × (Bool × (Bool × (Bool × Bool))))))))))) := y9.2
  let y11 : (Bool × (Int × (Int × (Int × (Int × (Int × (Int × (Bool × (Bool × (Bool × Bool)))))))))) := y10.2
  let y12 : DForm := (fn38 y2)
  let y13 : (Int × (Int × (Bool × (Int × (Int × (Int × (Int × (Int × (Int × (Bool × (Bool × (Bool × Bool)))))))))))) := y12.2
  let y14 : (Int × (Bool × (Int × (Int × (Int × (Int × (Int × (Int × (Bool × (Bool × (Bool × Bool))))))))))) := y13.2
  let y15 : (Bool × (Int × (Int × (Int × (Int × (Int × (Int × (Bool × (Bool × (Bool × Bool)))))))))) := y14.2
  let y16 : DForm := (fn38 y3)
  let y17 : (Int × (Int × (Bool × (Int × (Int × (Int × (Int × (Int × (Int × (Bool × (Bool × (Bool × Bool)))))))))))) := y16.2
  let y18 : (Int × (Bool × (Int × (Int × (Int × (Int × (Int × (Int × (Bool × (Bool × (Bool × Bool))))))))))) := y17.2
  let y19 : (Bool × (Int × (Int × (Int × (Int × (Int × (Int × (Bool × (Bool × (Bool × Bool)))))))))) := y18.2
  let y20 : DForm := (fn38 y4)
  let y21 : (Int × (Int × (Bool × (Int × (Int × (Int × (Int × (Int × (Int × (Bool × (Bool × (Bool × Bool)))))))))))) := y20.2
  let y22 : (Int × (Bool × (Int × (Int × (Int × (Int × (Int × (Int × (Bool × (Bool × (Bool × Bool))))))))))) := y21.2
  let y23 : (Bool × (Int × (Int × (Int × (Int × (Int × (Int × (Bool × (Bool × (Bool × Bool)))))))))) := y22.2
  let y24 : DForm := (fn38 y5)
  let y25 : (Int × (Int × (Bool × (Int × (Int × (Int × (Int × (Int × (Int × (Bool × (Bool × (Bool × Bool)))))))))))) := y24.2
  let y26 : (Int × (Bool × (Int × (Int × (Int × (Int × (Int × (Int × (Bool × (Bool × (Bool × Bool))))))))))) := y25.2
  let y27 : (Bool × (Int × (Int × (Int × (Int × (Int × (Int × (Bool × (Bool × (Bool × Bool)))))))))) := y26.2
  let y28 : DForm := (fn38 y6)
  let y29 : (Int × (Int × (Bool × (Int × (Int × (Int × (Int × (Int × (Int × (Bool × (Bool × (Bool × Bool)))))))))))) := y28.2
  let y30 : (Int × (Bool × (Int × (Int × (Int × (Int × (Int × (Int × (Bool × (Bool × (Bool × Bool))))))))))) := y29.2
  let y31 : (Bool × (Int × (Int × (Int × (Int × (Int × (Int × (Bool × (Bool × (Bool × Bool)))))))))) := y30.2
  .ret [(0, (1, (182, (false, ((-1), (32, y7)))))), (0, (1, (190, (false, ((-1), (33, y7)))))), (0, (0, (144, (false, ((-1), (34, (0, (8, (0, (0, (false, (false, (false, false))))))))))))), (y8.1, (y9.1, (y10.1, (y11.1, ((-1), y11.2.2))))), (y12.1, (y13.1, (y14.1, (y15.1, ((-1), y15.2.2))))), (y16.1, (y17.1, (y18.1, (y19.1, ((-1), y19.2.2))))), (y20.1, (y21.1, (y22.1, (y23.1, ((-1), y23.2.2))))), (y24.1, (y25.1, (y26.1, (y27.1, ((-1), y27.2.2))))), (y28.1, (y29.1, (y30.1, (y31.1, ((-1), y31.2.2)))))]
noncomputable def fn32 (x : Unit) : (List DForm) := (tree32 x).val
def pre32 (x : Unit) : Prop := (tree32 x).ok
noncomputable def spec32 : Spec := { dom := .unit, cod := (.slice CForm), n := 1, pre := pre32, f := fn32 }
theorem run32 (W : Cfg) (Q : (List DForm) → Prop) (x : Unit) : run (env tab38 (fun _ _ => none)) (fun _ _ _ => none) (finS spec32 Q) W 100000 (startFr 32 Tryd.f32 (bodyOf Tryd.f32) (argsOf .unit x)) [] [] = (tree32 x).wp Q := by kernel_rfl
theorem ok32 : SpecOk env0 32 spec32 := SpecOk.env rfl (fun _ _ h => h) (spec_of_tree (E := (env tab38 (fun _ _ => none))) (sp := spec32) (valid _ _) (fun f sp h => SpecOk.env rfl (fun _ _ h => h) (tab38_ok f sp h)) (fn := Tryd.f32) (c := (bodyOf Tryd.f32)) (by kernel_rfl) (by kernel_rfl) tree32 run32 (fun _ h => Tr.gives_val h))

noncomputable def tab32 : FuncId → Option Spec
  | 32 => some spec32
  | f => tab38 f
theorem tab32_ok : ∀ f sp, tab32 f = some sp → SpecOk env0 f sp := by
  intro f sp h
  unfold tab32 at h
  split at h
  · cases h; exact ok32
  · exact tab38_ok f sp h

/-! ### sundial/codes.Forms -/
inductive J8 where
  | h0 (v0 : (List (List DForm))) (v1 : Int)
  | h1 (v0 : (List (List DForm))) (v1 : Int) (v2 : (List DForm)) (v3 : Int)
  | h2 (v0 : (List (List DForm))) (v1 : Int) (v2 : (List DForm)) (v3 : Int) (v4 : Int) (v6 : Nat) (v7 : Nat) (v8 : (List DForm))
  | h3 (v0 : (List (List DForm))) (v1 : Int) (v3 : Nat) (v4 : Nat) (v5 : (List DForm))
noncomputable def tree8 (_x : Unit) : Tr (J8 ⊕ (List DForm)) :=
  .need (pre29 ()) <|
  .need (pre30 ()) <|
  .need (pre31 ()) <|
  .need (pre32 ()) <|
  .need ((0 : Nat) < 4) <|
  .need ((1 : Nat) < 4) <|
  .need ((2 : Nat) < 4) <|
  .need ((3 : Nat) < 4) <|
  .ret (.inl (.h0 [(fn29 ()), (fn30 ()), (fn31 ()), (fn32 ())] 0))
noncomputable def step8 (_x : Unit) : J8 → Tr (J8 ⊕ (List DForm))
  | .h0 v0 v1 =>
    .ite (ilt v1 4) (
      .need ((0 : Int) ≤ v1) <|
      .need ((v1 : Int) < 4) <|
      .need (((v1).toNat : Nat) < 4) <|
      let y0 : (List DForm) := (rdc (.slice CForm) v0 (v1).toNat)
      .ret (.inl (.h1 v0 v1 y0 (y0.length : Int)))) (
      .fail (.inr (TC.dflt (.slice CForm))))
  | .h1 v0 v1 v2 v3 =>
    .ite (ilt 0 v3) (
      .need ((0 : Int) ≤ 0) <|
      .need (0 < (v2.length : Int)) <|
      .need ((0 : Nat) < 1) <|
      .need (((0 : Nat) + 1 : Nat) ≤ 1) <|
      .need (((1 : Nat) * 56 : Nat) ≤ 2 ^ 40) <|
      .need ((1 : Nat) ≤ 2 ^ 40) <|
      .ret (.inl (.h2 v0 v1 v2 v3 1 1 1 [(rdc CForm v2 0)]))) (
      .ret (.inl (.h0 v0 (iadd .i64 v1 1))))
  | .h2 v0 v1 v2 v3 v4 v6 v7 v8 =>
    .ite (ilt v4 v3) (
      .need ((0 : Int) ≤ v4) <|
      .need (v4 < (v2.length : Int)) <|
      .need ((0 : Nat) < 1) <|
      .need (((0 : Nat) + 1 : Nat) ≤ 1) <|
      .need ((v6 : Nat) = v7) <|
      let y0 : Nat := (v6 + 1)
      .need (((y0 : Nat) * 56 : Nat) ≤ 2 ^ 40) <|
      .need ((y0 : Nat) ≤ 2 ^ 40) <|
      .ret (.inl (.h2 v0 v1 v2 v3 (iadd .i64 v4 1) y0 y0 (v8 ++ [(rdc CForm v2 (v4).toNat)])))) (
      .ret (.inl (.h3 v0 (iadd .i64 v1 1) v6 v7 v8)))
  | .h3 v0 v1 v3 v4 v5 =>
    .ite (ilt v1 4) (
      .need ((0 : Int) ≤ v1) <|
      .need ((v1 : Int) < 4) <|
      .need (((v1).toNat : Nat) < 4) <|
      let y0 : (List DForm) := (rdc (.slice CForm) v0 (v1).toNat)
      .ret (.inl (.h2 v0 v1 y0 (y0.length : Int) 0 v3 v4 v5))) (
      .need ((v3 : Nat) ≤ v4) <|
      .ret (.inr (v5.take v3)))
noncomputable def head8 (_x : Unit) : J8 → Head
  | .h0 v0 v1 =>
    { fr := { id := 28, kind := (.iter 2), T := [(.yld 2)] ++ List.replicate 9 .any ++ [(.arr 4 (.slice CForm) v0), (.int .i64 v1)] ++ List.replicate 14 .any, items := [.lp (subc [1, 0, 0] (bodyOf Tryd.f28)), .blk 0], D := [], base := 3 },
      stk := [{ id := 27, kind := (.call (some 4)), T := [(.raw (.slice none 0 0)), (.fn 28 []), (.ptr 0 []), .undef, (.raw (.slice none 0 0)), .undef, (.fn 28 [])] ++ List.replicate 6 .undef, items := [.fin 2, .blk 0, .code (subc [1, 1] (bodyOf Tryd.f27))], D := [1], base := 0 }, { id := 19, kind := (.call (some 2)), T := [(.fn 28 []), .undef, (.raw (.slice none 0 0)), (.fn 28 []), .undef], items := [.ops (opsOf (subc [1, 0] (bodyOf Tryd.f19))) ((opsOf (subc [1, 0] (bodyOf Tryd.f19))).drop 2), .code (subc [1, 1] (bodyOf Tryd.f19))], D := [], base := 0 }, { id := 8, kind := .top, T := [(.raw (.slice none 0 0)), (.fn 28 []), .undef], items := [.ops (opsOf (subc [1, 0] (bodyOf Tryd.f8))) ((opsOf (subc [1, 0] (bodyOf Tryd.f8))).drop 2), .code (subc [1, 1] (bodyOf Tryd.f8))], D := [], base := 0 }],
      H := [.cell true 24 (.raw (.slice none 0 0)), .dfd, .loop .ready none 27 ([.any, .any, (.ptr 0 [])] ++ List.replicate 10 .any) [7] (subc [1, 0, 1, 0, 0] (bodyOf Tryd.f27)) (subc [1, 0, 1, 0, 1] (bodyOf Tryd.f27)) 1] }
  | .h1 v0 v1 v2 v3 =>
    { fr := { id := 28, kind := (.iter 2), T := [(.yld 2)] ++ List.replicate 9 .any ++ [(.arr 4 (.slice CForm) v0), (.int .i64 v1), .any, .any, (.fsl CForm v2), (.int .i64 v3), (.int .i64 0)] ++ List.replicate 9 .any, items := [.lp (subc [1, 0, 0, 1, 1, 0, 0, 1, 1, 0, 0] (bodyOf Tryd.f28)), .blk 2, .blk 1, .code (subc [1, 0, 0, 1, 1, 1] (bodyOf Tryd.f28)), .lp (subc [1, 0, 0] (bodyOf Tryd.f28)), .blk 0], D := [], base := 3 },
      stk := [{ id := 27, kind := (.call (some 4)), T := [(.raw (.slice none 0 0)), (.fn 28 []), (.ptr 0 []), .undef, (.raw (.slice none 0 0)), .undef, (.fn 28 [])] ++ List.replicate 6 .undef, items := [.fin 2, .blk 0, .code (subc [1, 1] (bodyOf Tryd.f27))], D := [1], base := 0 }, { id := 19, kind := (.call (some 2)), T := [(.fn 28 []), .undef, (.raw (.slice none 0 0)), (.fn 28 []), .undef], items := [.ops (opsOf (subc [1, 0] (bodyOf Tryd.f19))) ((opsOf (subc [1, 0] (bodyOf Tryd.f19))).drop 2), .code (subc [1, 1] (bodyOf Tryd.f19))], D := [], base := 0 }, { id := 8, kind := .top, T := [(.raw (.slice none 0 0)), (.fn 28 []), .undef], items := [.ops (opsOf (subc [1, 0] (bodyOf Tryd.f8))) ((opsOf (subc [1, 0] (bodyOf Tryd.f8))).drop 2), .code (subc [1, 1] (bodyOf Tryd.f8))], D := [], base := 0 }],
      H := [.cell true 24 (.raw (.slice none 0 0)), .dfd, .loop .ready none 27 ([.any, .any, (.ptr 0 [])] ++ List.replicate 10 .any) [7] (subc [1, 0, 1, 0, 0] (bodyOf Tryd.f27)) (subc [1, 0, 1, 0, 1] (bodyOf Tryd.f27)) 1] }
  | .h2 v0 v1 v2 v3 v4 v6 v7 v8 =>
    { fr := { id := 28, kind := (.iter 2), T := [(.yld 2)] ++ List.replicate 9 .any ++ [(.arr 4 (.slice CForm) v0), (.int .i64 v1), .any, .any, (.fsl CForm v2), (.int .i64 v3), (.int .i64 v4)] ++ List.replicate 9 .any, items := [.lp (subc [1, 0, 0, 1, 1, 0, 0, 1, 1, 0, 0] (bodyOf Tryd.f28)), .blk 2, .blk 1, .code (subc [1, 0, 0, 1, 1, 1] (bodyOf Tryd.f28)), .lp (subc [1, 0, 0] (bodyOf Tryd.f28)), .blk 0], D := [], base := 3 },
      stk := [{ id := 27, kind := (.call (some 4)), T := [(.raw (.slice none 0 0)), (.fn 28 []), (.ptr 0 []), .undef, (.raw (.slice none 0 0)), .undef, (.fn 28 [])] ++ List.replicate 6 .undef, items := [.fin 2, .blk 0, .code (subc [1, 1] (bodyOf Tryd.f27))], D := [1], base := 0 }, { id := 19, kind := (.call (some 2)), T := [(.fn 28 []), .undef, (.raw (.slice none 0 0)), (.fn 28 []), .undef], items := [.ops (opsOf (subc [1, 0] (bodyOf Tryd.f19))) ((opsOf (subc [1, 0] (bodyOf Tryd.f19))).drop 2), .code (subc [1, 1] (bodyOf Tryd.f19))], D := [], base := 0 }, { id := 8, kind := .top, T := [(.raw (.slice none 0 0)), (.fn 28 []), .undef], items := [.ops (opsOf (subc [1, 0] (bodyOf Tryd.f8))) ((opsOf (subc [1, 0] (bodyOf Tryd.f8))).drop 2), .code (subc [1, 1] (bodyOf Tryd.f8))], D := [], base := 0 }],
      H := [.cell true 24 (.osl 3 [] 14 0 v6 none), .dfd, .loop .ready none 27 ([.any, .any, (.ptr 0 [])] ++ List.replicate 10 .any) [7] (subc [1, 0, 1, 0, 0] (bodyOf Tryd.f27)) (subc [1, 0, 1, 0, 1] (bodyOf Tryd.f27)) 1, .cell true 23 (.arr v7 CForm v8)] }
  | .h3 v0 v1 v3 v4 v5 =>
    { fr := { id := 28, kind := (.iter 2), T := [(.yld 2)] ++ List.replicate 9 .any ++ [(.arr 4 (.slice CForm) v0), (.int .i64 v1)] ++ List.replicate 14 .any, items := [.lp (subc [1, 0, 0] (bodyOf Tryd.f28)), .blk 0], D := [], base := 3 },
      stk := [{ id := 27, kind := (.call (some 4)), T := [(.raw (.slice none 0 0)), (.fn 28 []), (.ptr 0 []), .undef, (.raw (.slice none 0 0)), .undef, (.fn 28 [])] ++ List.replicate 6 .undef, items := [.fin 2, .blk 0, .code (subc [1, 1] (bodyOf Tryd.f27))], D := [1], base := 0 }, { id := 19, kind := (.call (some 2)), T := [(.fn 28 []), .undef, (.raw (.slice none 0 0)), (.fn 28 []), .undef], items := [.ops (opsOf (subc [1, 0] (bodyOf Tryd.f19))) ((opsOf (subc [1, 0] (bodyOf Tryd.f19))).drop 2), .code (subc [1, 1] (bodyOf Tryd.f19))], D := [], base := 0 }, { id := 8, kind := .top, T := [(.raw (.slice none 0 0)), (.fn 28 []), .undef], items := [.ops (opsOf (subc [1, 0] (bodyOf Tryd.f8))) ((opsOf (subc [1, 0] (bodyOf Tryd.f8))).drop 2), .code (subc [1, 1] (bodyOf Tryd.f8))], D := [], base := 0 }],
      H := [.cell true 24 (.osl 3 [] 14 0 v3 none), .dfd, .loop .ready none 27 ([.any, .any, (.ptr 0 [])] ++ List.replicate 10 .any) [7] (subc [1, 0, 1, 0, 0] (bodyOf Tryd.f27)) (subc [1, 0, 1, 0, 1] (bodyOf Tryd.f27)) 1, .cell true 23 (.arr v4 CForm v5)] }
noncomputable def stop8 : FuncId → Nat → Nat → Option Cut
  | 28, 0, 3 => some { tmps := [0, 10, 11], loops := [(2, [2])], dead := [] }
  | 28, 4, 3 => some { tmps := [0, 10, 11, 14, 15, 16], loops := [(2, [2])], dead := [] }
  | _, _, _ => none
noncomputable def fn8 (x : Unit) : (List DForm) := endVal (TC.dflt (.slice CForm)) (step8 x) (tree8 x)
def pre8 (x : Unit) : Prop := ∃ r, Ends (step8 x) r (tree8 x)
noncomputable def spec8 : Spec := { dom := .unit, cod := (.slice CForm), n := 1, pre := pre8, f := fn8, own := some 23 }
theorem run8 (W : Cfg) (Q : (List DForm) → Prop) (x : Unit) : run (env tab32 (fun _ _ => none)) stop8 (finS spec8 Q) W 100000 (startFr 8 Tryd.f8 (bodyOf Tryd.f8) (argsOf .unit x)) [] [] = (tree8 x).wp (kont W Q (head8 x)) := by kernel_rfl
theorem run8h0 (W : Cfg) (Q : (List DForm) → Prop) (x : Unit) (v0 : (List (List DForm))) (v1 : Int) : run (env tab32 (fun _ _ => none)) stop8 (finS spec8 Q) W 100000 (head8 x (.h0 v0 v1)).fr.enter (head8 x (.h0 v0 v1)).stk (head8 x (.h0 v0 v1)).H = (step8 x (.h0 v0 v1)).wp (kont W Q (head8 x)) := by kernel_rfl
theorem run8h1 (W : Cfg) (Q : (List DForm) → Prop) (x : Unit) (v0 : (List (List DForm))) (v1 : Int) (v2 : (List DForm)) (v3 : Int) : run (env tab32 (fun _ _ => none)) stop8 (finS spec8 Q) W 100000 (head8 x (.h1 v0 v1 v2 v3)).fr.enter (head8 x (.h1 v0 v1 v2 v3)).stk (head8 x (.h1 v0 v1 v2 v3)).H = (step8 x (.h1 v0 v1 v2 v3)).wp (kont W Q (head8 x)) := by kernel_rfl
theorem run8h2 (W : Cfg) (Q : (List DForm) → Prop) (x : Unit) (v0 : (List (List DForm))) (v1 : Int) (v2 : (List DForm)) (v3 : Int) (v4 : Int) (v6 : Nat) (v7 : Nat) (v8 : (List DForm)) : run (env tab32 (fun _ _ => none)) stop8 (finS spec8 Q) W 100000 (head8 x (.h2 v0 v1 v2 v3 v4 v6 v7 v8)).fr.enter (head8 x (.h2 v0 v1 v2 v3 v4 v6 v7 v8)).stk (head8 x (.h2 v0 v1 v2 v3 v4 v6 v7 v8)).H = (step8 x (.h2 v0 v1 v2 v3 v4 v6 v7 v8)).wp (kont W Q (head8 x)) := by kernel_rfl
theorem run8h3 (W : Cfg) (Q : (List DForm) → Prop) (x : Unit) (v0 : (List (List DForm))) (v1 : Int) (v3 : Nat) (v4 : Nat) (v5 : (List DForm)) : run (env tab32 (fun _ _ => none)) stop8 (finS spec8 Q) W 100000 (head8 x (.h3 v0 v1 v3 v4 v5)).fr.enter (head8 x (.h3 v0 v1 v3 v4 v5)).stk (head8 x (.h3 v0 v1 v3 v4 v5)).H = (step8 x (.h3 v0 v1 v3 v4 v5)).wp (kont W Q (head8 x)) := by kernel_rfl
theorem runs8 (W : Cfg) (Q : (List DForm) → Prop) (x : Unit) : ∀ j : J8, run (env tab32 (fun _ _ => none)) stop8 (finS spec8 Q) W 100000 (head8 x j).fr.enter (head8 x j).stk (head8 x j).H = (step8 x j).wp (kont W Q (head8 x))
  | .h0 v0 v1 => run8h0 W Q x v0 v1
  | .h1 v0 v1 v2 v3 => run8h1 W Q x v0 v1 v2 v3
  | .h2 v0 v1 v2 v3 v4 v6 v7 v8 => run8h2 W Q x v0 v1 v2 v3 v4 v6 v7 v8
  | .h3 v0 v1 v3 v4 v5 => run8h3 W Q x v0 v1 v3 v4 v5
theorem ok8 : SpecOk env0 8 spec8 := SpecOk.env rfl (fun _ _ h => h) (spec_of_trees (E := (env tab32 (fun _ _ => none))) (sp := spec8) (valid _ _) (fun f sp h => SpecOk.env rfl (fun _ _ h => h) (tab32_ok f sp h)) (fn := Tryd.f8) (c := (bodyOf Tryd.f8)) (by kernel_rfl) (by kernel_rfl) tree8 step8 head8 run8 runs8 (fun _ h => endVal_ends h))

noncomputable def tab8 : FuncId → Option Spec
  | 8 => some spec8
  | f => tab32 f
theorem tab8_ok : ∀ f sp, tab8 f = some sp → SpecOk env0 f sp := by
  intro f sp h
  unfold tab8 at h
  split at h
  · cases h; exact ok8
  · exact tab32_ok f sp h

/-! ### sundial/sundialref07.sums -/
noncomputable def tree22 (_x : Unit) : Tr (List DForm) :=
  .need ((0 : Nat) < 8) <|
  .need ((1 : Nat) < 8) <|
  .need ((2 : Nat) < 8) <|
  .need ((3 : Nat) < 8) <|
  .need ((4 : Nat) < 8) <|
  .need ((5 : Nat) < 8) <|
  .need ((6 : Nat) < 8) <|
  .need ((7 : Nat) < 8) <|
  .need ((0 : Int) ≤ 0) <|
  .need ((0 : Int) < 8) <|
  .need ((0 : Nat) < 8) <|
  .need ((0 : Nat) < 1) <|
  .need (((0 : Nat) + 1 : Nat) ≤ 1) <|
  .need (((1 : Nat) * 56 : Nat) ≤ 2 ^ 40) <|
  .need ((1 : Nat) ≤ 2 ^ 40) <|
  .need ((0 : Int) ≤ 0) <|
  .need ((0 : Int) < 8) <|
  .need ((0 : Nat) < 8) <|
  .need ((0 : Nat) < 1) <|
  .need (((0 : Nat) + 1 : Nat) ≤ 1) <|
  .need ((1 : Nat) = 1) <|
  .need (((2 : Nat) * 56 : Nat) ≤ 2 ^ 40) <|
  .need ((2 : Nat) ≤ 2 ^ 40) <|
  .need ((0 : Int) ≤ 1) <|
  .need ((1 : Int) < 8) <|
  .need ((1 : Nat) < 8) <|
  .need ((0 : Nat) < 1) <|
  .need (((0 : Nat) + 1 : Nat) ≤ 1) <|
  .need ((2 : Nat) = 2) <|
  .need (((3 : Nat) * 56 : Nat) ≤ 2 ^ 40) <|
  .need ((3 : Nat) ≤ 2 ^ 40) <|
  .need ((0 : Int) ≤ 1) <|
  .need ((1 : Int) < 8) <|
  .need ((1 : Nat) < 8) <|
  .need ((0 : Nat) < 1) <|
  .need (((0 : Nat) + 1 : Nat) ≤ 1) <|
  .need ((3 : Nat) = 3) <|
  .need (((4 : Nat) * 56 : Nat) ≤ 2 ^ 40) <|
  .need ((4 : Nat) ≤ 2 ^ 40) <|
  .need ((0 : Int) ≤ 2) <|
  .need ((2 : Int) < 8) <|
  .need ((2 : Nat) < 8) <|
  .need ((0 : Nat) < 1) <|
  .need (((0 : Nat) + 1 : Nat) ≤ 1) <|
  .need ((4 : Nat) = 4) <|
  .need (((5 : Nat) * 56 : Nat) ≤ 2 ^ 40) <|
  .need ((5 : Nat) ≤ 2 ^ 40) <|
  .need ((0 : Int) ≤ 2) <|
  .need ((2 : Int) < 8) <|
  .need ((2 : Nat) < 8) <|
  .need ((0 : Nat) < 1) <|
  .need (((0 : Nat) + 1 : Nat) ≤ 1) <|
  .need ((5 : Nat) = 5) <|
  .need (((6 : Nat) * 56 : Nat) ≤ 2 ^ 40) <|
  .need ((6 : Nat) ≤ 2 ^ 40) <|
  .need ((0 : Int) ≤ 3) <|
  .need ((3 : Int) < 8) <|
  .need ((3 : Nat) < 8) <|
  .need ((0 : Nat) < 1) <|
  .need (((0 : Nat) + 1 : Nat) ≤ 1) <|
  .need ((6 : Nat) = 6) <|
  .need (((7 : Nat) * 56 : Nat) ≤ 2 ^ 40) <|
  .need ((7 : Nat) ≤ 2 ^ 40) <|
  .need ((0 : Int) ≤ 3) <|
  .need ((3 : Int) < 8) <|
  .need ((3 : Nat) < 8) <|
  .need ((0 : Nat) < 1) <|
  .need (((0 : Nat) + 1 : Nat) ≤ 1) <|
  .need ((7 : Nat) = 7) <|
  .need (((8 : Nat) * 56 : Nat) ≤ 2 ^ 40) <|
  .need ((8 : Nat) ≤ 2 ^ 40) <|
  .need ((0 : Int) ≤ 4) <|
  .need ((4 : Int) < 8) <|
  .need ((4 : Nat) < 8) <|
  .need ((0 : Nat) < 1) <|
  .need (((0 : Nat) + 1 : Nat) ≤ 1) <|
  .need ((8 : Nat) = 8) <|
  .need (((9 : Nat) * 56 : Nat) ≤ 2 ^ 40) <|
  .need ((9 : Nat) ≤ 2 ^ 40) <|
  .need ((0 : Int) ≤ 4) <|
  .need ((4 : Int) < 8) <|
  .need ((4 : Nat) < 8) <|
  .need ((0 : Nat) < 1) <|
  .need (((0 : Nat) + 1 : Nat) ≤ 1) <|
  .need ((9 : Nat) = 9) <|
  .need (((10 : Nat) * 56 : Nat) ≤ 2 ^ 40) <|
  .need ((10 : Nat) ≤ 2 ^ 40) <|
  .need ((0 : Int) ≤ 5) <|
  .need ((5 : Int) < 8) <|
  .need ((5 : Nat) < 8) <|
  .need ((0 : Nat) < 1) <|
  .need (((0 : Nat) + 1 : Nat) ≤ 1) <|
  .need ((10 : Nat) = 10) <|
  .need (((11 : Nat) * 56 : Nat) ≤ 2 ^ 40) <|
  .need ((11 : Nat) ≤ 2 ^ 40) <|
  .need ((0 : Int) ≤ 5) <|
  .need ((5 : Int) < 8) <|
  .need ((5 : Nat) < 8) <|
  .need ((0 : Nat) < 1) <|
  .need (((0 : Nat) + 1 : Nat) ≤ 1) <|
  .need ((11 : Nat) = 11) <|
  .need (((12 : Nat) * 56 : Nat) ≤ 2 ^ 40) <|
  .need ((12 : Nat) ≤ 2 ^ 40) <|
  .need ((0 : Int) ≤ 6) <|
  .need ((6 : Int) < 8) <|
  .need ((6 : Nat) < 8) <|
  .need ((0 : Nat) < 1) <|
  .need (((0 : Nat) + 1 : Nat) ≤ 1) <|
  .need ((12 : Nat) = 12) <|
  .need (((13 : Nat) * 56 : Nat) ≤ 2 ^ 40) <|
  .need ((13 : Nat) ≤ 2 ^ 40) <|
  .need ((0 : Int) ≤ 6) <|
  .need ((6 : Int) < 8) <|
  .need ((6 : Nat) < 8) <|
  .need ((0 : Nat) < 1) <|
  .need (((0 : Nat) + 1 : Nat) ≤ 1) <|
  .need ((13 : Nat) = 13) <|
  .need (((14 : Nat) * 56 : Nat) ≤ 2 ^ 40) <|
  .need ((14 : Nat) ≤ 2 ^ 40) <|
  .need ((0 : Int) ≤ 7) <|
  .need ((7 : Int) < 8) <|
  .need ((7 : Nat) < 8) <|
  .need ((0 : Nat) < 1) <|
  .need (((0 : Nat) + 1 : Nat) ≤ 1) <|
  .need ((14 : Nat) = 14) <|
  .need (((15 : Nat) * 56 : Nat) ≤ 2 ^ 40) <|
  .need ((15 : Nat) ≤ 2 ^ 40) <|
  .need ((0 : Int) ≤ 7) <|
  .need ((7 : Int) < 8) <|
  .need ((7 : Nat) < 8) <|
  .need ((0 : Nat) < 1) <|
  .need (((0 : Nat) + 1 : Nat) ≤ 1) <|
  .need ((15 : Nat) = 15) <|
  .need (((16 : Nat) * 56 : Nat) ≤ 2 ^ 40) <|
  .need ((16 : Nat) ≤ 2 ^ 40) <|
  .need ((0 : Int) ≤ 0) <|
  .need ((0 : Int) < 8) <|
  .need ((0 : Nat) < 8) <|
  .need ((0 : Nat) < 1) <|
  .need (((0 : Nat) + 1 : Nat) ≤ 1) <|
  .need ((16 : Nat) = 16) <|
  .need (((17 : Nat) * 56 : Nat) ≤ 2 ^ 40) <|
  .need ((17 : Nat) ≤ 2 ^ 40) <|
  .need ((0 : Int) ≤ 0) <|
  .need ((0 : Int) < 8) <|
  .need ((0 : Nat) < 8) <|
  .need ((0 : Nat) < 1) <|
  .need (((0 : Nat) + 1 : Nat) ≤ 1) <|
  .need ((17 : Nat) = 17) <|
  .need (((18 : Nat) * 56 : Nat) ≤ 2 ^ 40) <|
  .need ((18 : Nat) ≤ 2 ^ 40) <|
  .need ((0 : Int) ≤ 1) <|
  .need ((1 : Int) < 8) <|
  .need ((1 : Nat) < 8) <|
  .need ((0 : Nat) < 1) <|
  .need (((0 : Nat) + 1 : Nat) ≤ 1) <|
  .need ((18 : Nat) = 18) <|
  .need (((19 : Nat) * 56 : Nat) ≤ 2 ^ 40) <|
  .need ((19 : Nat) ≤ 2 ^ 40) <|
  .need ((0 : Int) ≤ 1) <|
  .need ((1 : Int) < 8) <|
  .need ((1 : Nat) < 8) <|
  .need ((0 : Nat) < 1) <|
  .need (((0 : Nat) + 1 : Nat) ≤ 1) <|
  .need ((19 : Nat) = 19) <|
  .need (((20 : Nat) * 56 : Nat) ≤ 2 ^ 40) <|
  .need ((20 : Nat) ≤ 2 ^ 40) <|
  .need ((0 : Int) ≤ 2) <|
  .need ((2 : Int) < 8) <|
  .need ((2 : Nat) < 8) <|
  .need ((0 : Nat) < 1) <|
  .need (((0 : Nat) + 1 : Nat) ≤ 1) <|
  .need ((20 : Nat) = 20) <|
  .need (((21 : Nat) * 56 : Nat) ≤ 2 ^ 40) <|
  .need ((21 : Nat) ≤ 2 ^ 40) <|
  .need ((0 : Int) ≤ 2) <|
  .need ((2 : Int) < 8) <|
  .need ((2 : Nat) < 8) <|
  .need ((0 : Nat) < 1) <|
  .need (((0 : Nat) + 1 : Nat) ≤ 1) <|
  .need ((21 : Nat) = 21) <|
  .need (((22 : Nat) * 56 : Nat) ≤ 2 ^ 40) <|
  .need ((22 : Nat) ≤ 2 ^ 40) <|
  .need ((0 : Int) ≤ 3) <|
  .need ((3 : Int) < 8) <|
  .need ((3 : Nat) < 8) <|
  .need ((0 : Nat) < 1) <|
  .need (((0 : Nat) + 1 : Nat) ≤ 1) <|
  .need ((22 : Nat) = 22) <|
  .need (((23 : Nat) * 56 : Nat) ≤ 2 ^ 40) <|
  .need ((23 : Nat) ≤ 2 ^ 40) <|
  .need ((0 : Int) ≤ 3) <|
  .need ((3 : Int) < 8) <|
  .need ((3 : Nat) < 8) <|
  .need ((0 : Nat) < 1) <|
  .need (((0 : Nat) + 1 : Nat) ≤ 1) <|
  .need ((23 : Nat) = 23) <|
  .need (((24 : Nat) * 56 : Nat) ≤ 2 ^ 40) <|
  .need ((24 : Nat) ≤ 2 ^ 40) <|
  .need ((0 : Int) ≤ 4) <|
  .need ((4 : Int) < 8) <|
  .need ((4 : Nat) < 8) <|
  .need ((0 : Nat) < 1) <|
  .need (((0 : Nat) + 1 : Nat) ≤ 1) <|
  .need ((24 : Nat) = 24) <|
  .need (((25 : Nat) * 56 : Nat) ≤ 2 ^ 40) <|
  .need ((25 : Nat) ≤ 2 ^ 40) <|
  .need ((0 : Int) ≤ 4) <|
  .need ((4 : Int) < 8) <|
  .need ((4 : Nat) < 8) <|
  .need ((0 : Nat) < 1) <|
  .need (((0 : Nat) + 1 : Nat) ≤ 1) <|
  .need ((25 : Nat) = 25) <|
  .need (((26 : Nat) * 56 : Nat) ≤ 2 ^ 40) <|
  .need ((26 : Nat) ≤ 2 ^ 40) <|
  .need ((0 : Int) ≤ 5) <|
  .need ((5 : Int) < 8) <|
  .need ((5 : Nat) < 8) <|
  .need ((0 : Nat) < 1) <|
  .need (((0 : Nat) + 1 : Nat) ≤ 1) <|
  .need ((26 : Nat) = 26) <|
  .need (((27 : Nat) * 56 : Nat) ≤ 2 ^ 40) <|
  .need ((27 : Nat) ≤ 2 ^ 40) <|
  .need ((0 : Int) ≤ 5) <|
  .need ((5 : Int) < 8) <|
  .need ((5 : Nat) < 8) <|
  .need ((0 : Nat) < 1) <|
  .need (((0 : Nat) + 1 : Nat) ≤ 1) <|
  .need ((27 : Nat) = 27) <|
  .need (((28 : Nat) * 56 : Nat) ≤ 2 ^ 40) <|
  .need ((28 : Nat) ≤ 2 ^ 40) <|
  .need ((0 : Int) ≤ 6) <|
  .need ((6 : Int) < 8) <|
  .need ((6 : Nat) < 8) <|
  .need ((0 : Nat) < 1) <|
  .need (((0 : Nat) + 1 : Nat) ≤ 1) <|
  .need ((28 : Nat) = 28) <|
  .need (((29 : Nat) * 56 : Nat) ≤ 2 ^ 40) <|
  .need ((29 : Nat) ≤ 2 ^ 40) <|
  .need ((0 : Int) ≤ 6) <|
  .need ((6 : Int) < 8) <|
  .need ((6 : Nat) < 8) <|
  .need ((0 : Nat) < 1) <|
  .need (((0 : Nat) + 1 : Nat) ≤ 1) <|
  .need ((29 : Nat) = 29) <|
  .need (((30 : Nat) * 56 : Nat) ≤ 2 ^ 40) <|
  .need ((30 : Nat) ≤ 2 ^ 40) <|
  .need ((0 : Int) ≤ 7) <|
  .need ((7 : Int) < 8) <|
  .need ((7 : Nat) < 8) <|
  .need ((0 : Nat) < 1) <|
  .need (((0 : Nat) + 1 : Nat) ≤ 1) <|
  .need ((30 : Nat) = 30) <|
  .need (((31 : Nat) * 56 : Nat) ≤ 2 ^ 40) <|
  .need ((31 : Nat) ≤ 2 ^ 40) <|
  .need ((0 : Int) ≤ 7) <|
  .need ((7 : Int) < 8) <|
  .need ((7 : Nat) < 8) <|
  .need ((0 : Nat) < 1) <|
  .need (((0 : Nat) + 1 : Nat) ≤ 1) <|
  .need ((31 : Nat) = 31) <|
  .need (((32 : Nat) * 56 : Nat) ≤ 2 ^ 40) <|
  .need ((32 : Nat) ≤ 2 ^ 40) <|
  .need ((0 : Nat) < 1) <|
  .need (((0 : Nat) + 1 : Nat) ≤ 1) <|
  .need ((32 : Nat) = 32) <|
  .need (((33 : Nat) * 56 : Nat) ≤ 2 ^ 40) <|
  .need ((33 : Nat) ≤ 2 ^ 40) <|
  .need ((0 : Nat) < 1) <|
  .need (((0 : Nat) + 1 : Nat) ≤ 1) <|
  .need ((33 : Nat) = 33) <|
  .need (((34 : Nat) * 56 : Nat) ≤ 2 ^ 40) <|
  .need ((34 : Nat) ≤ 2 ^ 40) <|
  .need ((0 : Nat) < 1) <|
  .need (((0 : Nat) + 1 : Nat) ≤ 1) <|
  .need ((34 : Nat) = 34) <|
  .need (((35 : Nat) * 56 : Nat) ≤ 2 ^ 40) <|
  .need ((35 : Nat) ≤ 2 ^ 40) <|
  .need ((0 : Nat) < 1) <|
  .need (((0 : Nat) + 1 : Nat) ≤ 1) <|
  .need ((35 : Nat) = 35) <|
  .need (((36 : Nat) * 56 : Nat) ≤ 2 ^ 40) <|
  .need ((36 : Nat) ≤ 2 ^ 40) <|
  .need ((0 : Nat) < 1) <|
  .need (((0 : Nat) + 1 : Nat) ≤ 1) <|
  .need ((36 : Nat) = 36) <|
  .need (((37 : Nat) * 56 : Nat) ≤ 2 ^ 40) <|
  .need ((37 : Nat) ≤ 2 ^ 40) <|
  .need ((0 : Nat) < 1) <|
  .need (((0 : Nat) + 1 : Nat) ≤ 1) <|
  .need ((37 : Nat) = 37) <|
  .need (((38 : Nat) * 56 : Nat) ≤ 2 ^ 40) <|
  .need ((38 : Nat) ≤ 2 ^ 40) <|
  .need ((0 : Nat) < 1) <|
  .need (((0 : Nat) + 1 : Nat) ≤ 1) <|
  .need ((38 : Nat) = 38) <|
  .need (((39 : Nat) * 56 : Nat) ≤ 2 ^ 40) <|
  .need ((39 : Nat) ≤ 2 ^ 40) <|
  .need ((0 : Nat) < 1) <|
  .need (((0 : Nat) + 1 : Nat) ≤ 1) <|
  .need ((39 : Nat) = 39) <|
  .need (((40 : Nat) * 56 : Nat) ≤ 2 ^ 40) <|
  .need ((40 : Nat) ≤ 2 ^ 40) <|
  .need ((0 : Nat) < 5) <|
  .need ((1 : Nat) < 5) <|
  .need ((2 : Nat) < 5) <|
  .need ((3 : Nat) < 5) <|
  .need ((4 : Nat) < 5) <|
  .need ((0 : Nat) < 5) <|
  .need ((1 : Nat) < 5) <|
  .need ((2 : Nat) < 5) <|
  .need ((3 : Nat) < 5) <|
  .need ((4 : Nat) < 5) <|
  .need ((0 : Int) ≤ 0) <|
  .need ((0 : Int) < 5) <|
  .need ((0 : Nat) < 5) <|
  .need ((0 : Int) ≤ 0) <|
  .need ((0 : Int) < 5) <|
  .need ((0 : Nat) < 5) <|
  .need ((0 : Nat) < 1) <|
  .need (((0 : Nat) + 1 : Nat) ≤ 1) <|
  .need ((40 : Nat) = 40) <|
  .need (((41 : Nat) * 56 : Nat) ≤ 2 ^ 40) <|
  .need ((41 : Nat) ≤ 2 ^ 40) <|
  .need ((0 : Int) ≤ 0) <|
  .need ((0 : Int) < 5) <|
  .need ((0 : Nat) < 5) <|
  .need ((0 : Int) ≤ 0) <|
  .need ((0 : Int) < 5) <|
  .need ((0 : Nat) < 5) <|
  .need ((0 : Nat) < 1) <|
  .need (((0 : Nat) + 1 : Nat) ≤ 1) <|
  .need ((41 : Nat) = 41) <|
  .need (((42 : Nat) * 56 : Nat) ≤ 2 ^ 40) <|
  .need ((42 : Nat) ≤ 2 ^ 40) <|
  .need ((0 : Int) ≤ 1) <|
  .need ((1 : Int) < 5) <|
  .need ((1 : Nat) < 5) <|
  .need ((0 : Int) ≤ 1) <|
  .need ((1 : Int) < 5) <|
  .need ((1 : Nat) < 5) <|
  .need ((0 : Nat) < 1) <|
  .need (((0 : Nat) + 1 : Nat) ≤ 1) <|
  .need ((42 : Nat) = 42) <|
  .need (((43 : Nat) * 56 : Nat) ≤ 2 ^ 40) <|
  .need ((43 : Nat) ≤ 2 ^ 40) <|
  .need ((0 : Int) ≤ 1) <|
  .need ((1 : Int) < 5) <|
  .need ((1 : Nat) < 5) <|
  .need ((0 : Int) ≤ 1) <|
  .need ((1 : Int) < 5) <|
  .need ((1 : Nat) < 5) <|
  .need ((0 : Nat) < 1) <|
  .need (((0 : Nat) + 1 : Nat) ≤ 1) <|
  .need ((43 : Nat) = 43) <|
  .need (((44 : Nat) * 56 : Nat) ≤ 2 ^ 40) <|
  .need ((44 : Nat) ≤ 2 ^ 40) <|
  .need ((0 : Int) ≤ 2) <|
  .need ((2 : Int) < 5) <|
  .need ((2 : Nat) < 5) <|
  .need ((0 : Int) ≤ 2) <|
  .need ((2 : Int) < 5) <|
  .need ((2 : Nat) < 5) <|
  .need ((0 : Nat) < 1) <|
  .need (((0 : Nat) + 1 : Nat) ≤ 1) <|
  .need ((44 : Nat) = 44) <|
  .need (((45 : Nat) * 56 : Nat) ≤ 2 ^ 40) <|
  .need ((45 : Nat) ≤ 2 ^ 40) <|
  .need ((0 : Int) ≤ 2) <|
  .need ((2 : Int) < 5) <|
  .need ((2 : Nat) < 5) <|
  .need ((0 : Int) ≤ 2) <|
  .need ((2 : Int) < 5) <|
  .need ((2 : Nat) < 5) <|
  .need ((0 : Nat) < 1) <|
  .need (((0 : Nat) + 1 : Nat) ≤ 1) <|
  .need ((45 : Nat) = 45) <|
  .need (((46 : Nat) * 56 : Nat) ≤ 2 ^ 40) <|
  .need ((46 : Nat) ≤ 2 ^ 40) <|
  .need ((0 : Int) ≤ 3) <|
  .need ((3 : Int) < 5) <|
  .need ((3 : Nat) < 5) <|
  .need ((0 : Int) ≤ 3) <|
  .need ((3 : Int) < 5) <|
  .need ((3 : Nat) < 5) <|
  .need ((0 : Nat) < 1) <|
  .need (((0 : Nat) + 1 : Nat) ≤ 1) <|
  .need ((46 : Nat) = 46) <|
  .need (((47 : Nat) * 56 : Nat) ≤ 2 ^ 40) <|
  .need ((47 : Nat) ≤ 2 ^ 40) <|
  .need ((0 : Int) ≤ 3) <|
  .need ((3 : Int) < 5) <|
  .need ((3 : Nat) < 5) <|
  .need ((0 : Int) ≤ 3) <|
  .need ((3 : Int) < 5) <|
  .need ((3 : Nat) < 5) <|
  .need ((0 : Nat) < 1) <|
  .need (((0 : Nat) + 1 : Nat) ≤ 1) <|
  .need ((47 : Nat) = 47) <|
  .need (((48 : Nat) * 56 : Nat) ≤ 2 ^ 40) <|
  .need ((48 : Nat) ≤ 2 ^ 40) <|
  .need ((0 : Int) ≤ 4) <|
  .need ((4 : Int) < 5) <|
  .need ((4 : Nat) < 5) <|
  .need ((0 : Int) ≤ 4) <|
  .need ((4 : Int) < 5) <|
  .need ((4 : Nat) < 5) <|
  .need ((0 : Nat) < 1) <|
  .need (((0 : Nat) + 1 : Nat) ≤ 1) <|
  .need ((48 : Nat) = 48) <|
  .need (((49 : Nat) * 56 : Nat) ≤ 2 ^ 40) <|
  .need ((49 : Nat) ≤ 2 ^ 40) <|
  .need ((0 : Int) ≤ 4) <|
  .need ((4 : Int) < 5) <|
  .need ((4 : Nat) < 5) <|
  .need ((0 : Int) ≤ 4) <|
  .need ((4 : Int) < 5) <|
  .need ((4 : Nat) < 5) <|
  .need ((0 : Nat) < 1) <|
  .need (((0 : Nat) + 1 : Nat) ≤ 1) <|
  .need ((49 : Nat) = 49) <|
  .need (((50 : Nat) * 56 : Nat) ≤ 2 ^ 40) <|
  .need ((50 : Nat) ≤ 2 ^ 40) <|
  .need ((0 : Nat) < 1) <|
  .need (((0 : Nat) + 1 : Nat) ≤ 1) <|
  .need ((50 : Nat) = 50) <|
  .need (((51 : Nat) * 56 : Nat) ≤ 2 ^ 40) <|
  .need ((51 : Nat) ≤ 2 ^ 40) <|
  .need (((0 : Nat) + 51 : Nat) ≤ 51) <|
  let y0 : (Bool × (Bool × (Bool × Bool))) := (false, (false, (false, false)))
  let y1 : (Int × (Bool × (Bool × (Bool × Bool)))) := (0, y0)
  let y2 : (Int × (Int × (Int × (Int × (Bool × (Bool × (Bool × Bool))))))) := (0, (0, (1, y1)))
  let y3 : (Int × (Int × (Int × (Int × (Bool × (Bool × (Bool × Bool))))))) := (0, (0, (2, y1)))
  let y4 : (Int × (Int × (Int × (Int × (Bool × (Bool × (Bool × Bool))))))) := (0, (0, (4, (1, y0))))
  let y5 : (Int × (Int × (Int × (Int × (Bool × (Bool × (Bool × Bool))))))) := (0, (0, (4, (4, y0))))
  let y6 : (Int × (Int × (Int × (Int × (Bool × (Bool × (Bool × Bool))))))) := (0, (0, (3, y1)))
  let y7 : (Int × (Int × (Int × (Int × (Bool × (Bool × (Bool × Bool))))))) := (0, (0, (5, y1)))
  .ret [(0, (0, (1, (false, ((-1), (3, y2)))))), (0, (0, (3, (false, ((-1), (3, y3)))))), (0, (0, (9, (false, ((-1), (4, y2)))))), (0, (0, (11, (false, ((-1), (4, y3)))))), (0, (0, (17, (false, ((-1), (5, y2)))))), (0, (0, (19, (false, ((-1), (5, y3)))))), (0, (0, (25, (false, ((-1), (6, y2)))))), (0, (0, (27, (false, ((-1), (6, y3)))))), (0, (0, (33, (false, ((-1), (7, y2)))))), (0, (0, (35, (false, ((-1), (7, y3)))))), (0, (0, (41, (false, ((-1), (8, y2)))))), (0, (0, (43, (false, ((-1), (8, y3)))))), (0, (0, (49, (false, ((-1), (9, y2)))))), (0, (0, (51, (false, ((-1), (9, y3)))))), (0, (0, (57, (false, ((-1), (10, y2)))))), (0, (0, (59, (false, ((-1), (10, y3)))))), (0, (0, (131, (false, (0, (3, y4)))))), (0, (0, (129, (false, (0, (3, y5)))))), (0, (0, (131, (false, (1, (4, y4)))))), (0, (0, (129, (false, (1, (4, y5)))))), (0, (0, (131, (false, (2, (5, y4)))))), (0, (0, (129, (false, (2, (5, y5)))))), (0, (0, (131, (false, (3, (6, y4)))))), (0, (0, (129, (false, (3, (6, y5)))))), (0, (0, (131, (false, (4, (7, y4)))))), (0, (0, (129, (false, (4, (7, y5)))))), (0, (0, (131, (false, (5, (8, y4)))))), (0, (0, (129, (false, (5, (8, y5)))))), (0, (0, (131, (false, (6, (9, y4)))))), (0, (0, (129, (false, (6, (9, y5)))))), (0, (0, (131, (false, (7, (10, y4)))))), (0, (0, (129, (false, (7, (10, y5)))))), (0, (0, (133, (false, ((-1), (11, y2)))))), (0, (0, (247, (false, (0, (11, y5)))))), (0, (0, (255, (false, (0, (12, y6)))))), (0, (0, (255, (false, (1, (13, y6)))))), (0, (0, (247, (false, (2, (15, y6)))))), (0, (0, (247, (false, (3, (14, y6)))))), (0, (0, (247, (false, (4, (22, y6)))))), (0, (0, (247, (false, (6, (23, y6)))))), (0, (0, (193, (false, (0, (19, y4)))))), (0, (0, (211, (false, (0, (19, y7)))))), (0, (0, (193, (false, (1, (20, y4)))))), (0, (0, (211, (false, (1, (20, y7)))))), (0, (0, (193, (false, (4, (16, y4)))))), (0, (0, (211, (false, (4, (16, y7)))))), (0, (0, (193, (false, (5, (17, y4)))))), (0, (0, (211, (false, (5, (17, y7)))))), (0, (0, (193, (false, (7, (18, y4)))))), (0, (0, (211, (false, (7, (18, y7)))))), (0, (1, (175, (false, ((-1), (21, y3))))))]
noncomputable def fn22 (x : Unit) : (List DForm) := (tree22 x).val
def pre22 (x : Unit) : Prop := (tree22 x).ok
noncomputable def spec22 : Spec := { dom := .unit, cod := (.slice CForm), n := 1, pre := pre22, f := fn22 }
theorem run22 (W : Cfg) (Q : (List DForm) → Prop) (x : Unit) : run (env tab8 (fun _ _ => none)) (fun _ _ _ => none) (finS spec22 Q) W 100000 (startFr 22 Tryd.f22 (bodyOf Tryd.f22) (argsOf .unit x)) [] [] = (tree22 x).wp Q := by kernel_rfl
theorem ok22 : SpecOk env0 22 spec22 := SpecOk.env rfl (fun _ _ h => h) (spec_of_tree (E := (env tab8 (fun _ _ => none))) (sp := spec22) (valid _ _) (fun f sp h => SpecOk.env rfl (fun _ _ h => h) (tab8_ok f sp h)) (fn := Tryd.f22) (c := (bodyOf Tryd.f22)) (by kernel_rfl) (by kernel_rfl) tree22 run22 (fun _ h => Tr.gives_val h))

noncomputable def tab22 : FuncId → Option Spec
  | 22 => some spec22
  | f => tab8 f
theorem tab22_ok : ∀ f sp, tab22 f = some sp → SpecOk env0 f sp := by
  intro f sp h
  unfold tab22 at h
  split at h
  · cases h; exact ok22
  · exact tab8_ok f sp h

/-! ### sundial/sundialref07.flows -/
noncomputable def tree23 (_x : Unit) : Tr (List DForm) :=
  .need ((0 : Nat) < 7) <|
  .need ((1 : Nat) < 7) <|
  .need ((2 : Nat) < 7) <|
  .need ((3 : Nat) < 7) <|
  .need ((4 : Nat) < 7) <|
  .need ((5 : Nat) < 7) <|
  .need ((6 : Nat) < 7) <|
  .need ((0 : Nat) < 1) <|
  .need (((0 : Nat) + 1 : Nat) ≤ 1) <|
  .need ((0 + 7 : Nat) ≤ 7) <|
  .need (((8 : Nat) * 56 : Nat) ≤ 2 ^ 40) <|
  .need ((8 : Nat) ≤ 2 ^ 40) <|
  .need ((0 : Nat) < 1) <|
  .need (((0 : Nat) + 1 : Nat) ≤ 1) <|
  .need ((8 : Nat) = 8) <|
  .need (((9 : Nat) * 56 : Nat) ≤ 2 ^ 40) <|
  .need ((9 : Nat) ≤ 2 ^ 40) <|
  .need ((0 : Nat) < 1) <|
  .need (((0 : Nat) + 1 : Nat) ≤ 1) <|
  .need ((9 : Nat) = 9) <|
  .need (((10 : Nat) * 56 : Nat) ≤ 2 ^ 40) <|
  .need ((10 : Nat) ≤ 2 ^ 40) <|
  .need ((0 : Nat) < 1) <|
  .need (((0 : Nat) + 1 : Nat) ≤ 1) <|
  .need ((10 : Nat) = 10) <|
  .need (((11 : Nat) * 56 : Nat) ≤ 2 ^ 40) <|
  .need ((11 : Nat) ≤ 2 ^ 40) <|
  .need ((0 : Nat) < 1) <|
  .need (((0 : Nat) + 1 : Nat) ≤ 1) <|
  .need ((11 : Nat) = 11) <|
  .need (((12 : Nat) * 56 : Nat) ≤ 2 ^ 40) <|
  .need ((12 : Nat) ≤ 2 ^ 40) <|
  .need ((0 : Nat) < 1) <|
  .need (((0 : Nat) + 1 : Nat) ≤ 1) <|
  .need ((12 : Nat) = 12) <|
  .need (((13 : Nat) * 56 : Nat) ≤ 2 ^ 40) <|
  .need ((13 : Nat) ≤ 2 ^ 40) <|
  .need ((0 : Nat) < 1) <|
  .need (((0 : Nat) + 1 : Nat) ≤ 1) <|
  .need ((13 : Nat) = 13) <|
  .need (((14 : Nat) * 56 : Nat) ≤ 2 ^ 40) <|
  .need ((14 : Nat) ≤ 2 ^ 40) <|
  .need ((0 : Nat) < 1) <|
  .need (((0 : Nat) + 1 : Nat) ≤ 1) <|
  .need ((14 : Nat) = 14) <|
  .need (((15 : Nat) * 56 : Nat) ≤ 2 ^ 40) <|
  .need ((15 : Nat) ≤ 2 ^ 40) <|
  .need ((0 : Nat) < 1) <|
  .need (((0 : Nat) + 1 : Nat) ≤ 1) <|
  .need ((15 : Nat) = 15) <|
  .need (((16 : Nat) * 56 : Nat) ≤ 2 ^ 40) <|
  .need ((16 : Nat) ≤ 2 ^ 40) <|
  .need ((0 : Nat) < 1) <|
  .need (((0 : Nat) + 1 : Nat) ≤ 1) <|
  .need ((16 : Nat) = 16) <|
  .need (((17 : Nat) * 56 : Nat) ≤ 2 ^ 40) <|
  .need ((17 : Nat) ≤ 2 ^ 40) <|
  .need ((0 : Nat) < 1) <|
  .need (((0 : Nat) + 1 : Nat) ≤ 1) <|
  .need ((17 : Nat) = 17) <|
  .need (((18 : Nat) * 56 : Nat) ≤ 2 ^ 40) <|
  .need ((18 : Nat) ≤ 2 ^ 40) <|
  .need ((0 : Nat) < 1) <|
  .need (((0 : Nat) + 1 : Nat) ≤ 1) <|
  .need ((18 : Nat) = 18) <|
  .need (((19 : Nat) * 56 : Nat) ≤ 2 ^ 40) <|
  .need ((19 : Nat) ≤ 2 ^ 40) <|
  .need ((0 : Nat) < 1) <|
  .need (((0 : Nat) + 1 : Nat) ≤ 1) <|
  .need ((19 : Nat) = 19) <|
  .need (((20 : Nat) * 56 : Nat) ≤ 2 ^ 40) <|
  .need ((20 : Nat) ≤ 2 ^ 40) <|
  .need ((0 : Nat) < 1) <|
  .need (((0 : Nat) + 1 : Nat) ≤ 1) <|
  .need ((20 : Nat) = 20) <|
  .need (((21 : Nat) * 56 : Nat) ≤ 2 ^ 40) <|
  .need ((21 : Nat) ≤ 2 ^ 40) <|
  .need ((0 : Nat) < 1) <|
  .need (((0 : Nat) + 1 : Nat) ≤ 1) <|
  .need ((21 : Nat) = 21) <|
  .need (((22 : Nat) * 56 : Nat) ≤ 2 ^ 40) <|
  .need ((22 : Nat) ≤ 2 ^ 40) <|
  .need ((0 : Nat) < 1) <|
  .need (((0 : Nat) + 1 : Nat) ≤ 1) <|
  .need ((22 : Nat) = 22) <|
  .need (((23 : Nat) * 56 : Nat) ≤ 2 ^ 40) <|
  .need ((23 : Nat) ≤ 2 ^ 40) <|
  .need ((0 : Nat) < 1) <|
  .need (((0 : Nat) + 1 : Nat) ≤ 1) <|
  .need ((23 : Nat) = 23) <|
  .need (((24 : Nat) * 56 : Nat) ≤ 2 ^ 40) <|
  .need ((24 : Nat) ≤ 2 ^ 40) <|
  .need ((0 : Nat) < 1) <|
  .need (((0 : Nat) + 1 : Nat) ≤ 1) <|
  .need ((24 : Nat) = 24) <|
  .need (((25 : Nat) * 56 : Nat) ≤ 2 ^ 40) <|
  .need ((25 : Nat) ≤ 2 ^ 40) <|
  .need ((0 : Nat) < 1) <|
  .need (((0 : Nat) + 1 : Nat) ≤ 1) <|
  .need ((25 : Nat) = 25) <|
  .need (((26 : Nat) * 56 : Nat) ≤ 2 ^ 40) <|
  .need ((26 : Nat) ≤ 2 ^ 40) <|
  .need ((0 : Nat) < 1) <|
  .need (((0 : Nat) + 1 : Nat) ≤ 1) <|
  .need ((26 : Nat) = 26) <|
  .need (((27 : Nat) * 56 : Nat) ≤ 2 ^ 40) <|
  .need ((27 : Nat) ≤ 2 ^ 40) <|
  .need ((0 : Nat) < 1) <|
  .need (((0 : Nat) + 1 : Nat) ≤ 1) <|
  .need ((27 : Nat) = 27) <|
  .need (((28 : Nat) * 56 : Nat) ≤ 2 ^ 40) <|
  .need ((28 : Nat) ≤ 2 ^ 40) <|
  .need ((0 : Nat) < 1) <|
  .need (((0 : Nat) + 1 : Nat) ≤ 1) <|
  .need ((28 : Nat) = 28) <|
  .need (((29 : Nat) * 56 : Nat) ≤ 2 ^ 40) <|
  .need ((29 : Nat) ≤ 2 ^ 40) <|
  .need ((0 : Nat) < 1) <|
  .need (((0 : Nat) + 1 : Nat) ≤ 1) <|
  .need ((29 : Nat) = 29) <|
  .need (((30 : Nat) * 56 : Nat) ≤ 2 ^ 40) <|
  .need ((30 : Nat) ≤ 2 ^ 40) <|
  .need ((0 : Nat) < 1) <|
  .need (((0 : Nat) + 1 : Nat) ≤ 1) <|
  .need ((30 : Nat) = 30) <|
  .need (((31 : Nat) * 56 : Nat) ≤ 2 ^ 40) <|
  .need ((31 : Nat) ≤ 2 ^ 40) <|
  .need ((0 : Nat) < 1) <|
  .need (((0 : Nat) + 1 : Nat) ≤ 1) <|
  .need ((31 : Nat) = 31) <|
  .need (((32 : Nat) * 56 : Nat) ≤ 2 ^ 40) <|
  .need ((32 : Nat) ≤ 2 ^ 40) <|
  .need ((0 : Nat) < 1) <|
  .need (((0 : Nat) + 1 : Nat) ≤ 1) <|
  .need ((32 : Nat) = 32) <|
  .need (((33 : Nat) * 56 : Nat) ≤ 2 ^ 40) <|
  .need ((33 : Nat) ≤ 2 ^ 40) <|
  .need ((0 : Nat) < 1) <|
  .need (((0 : Nat) + 1 : Nat) ≤ 1) <|
  .need ((33 : Nat) = 33) <|
  .need (((34 : Nat) * 56 : Nat) ≤ 2 ^ 40) <|
  .need ((34 : Nat) ≤ 2 ^ 40) <|
  .need ((0 : Nat) < 1) <|
  .need (((0 : Nat) + 1 : Nat) ≤ 1) <|
  .need ((34 : Nat) = 34) <|
  .need (((35 : Nat) * 56 : Nat) ≤ 2 ^ 40) <|
  .need ((35 : Nat) ≤ 2 ^ 40) <|
  .need ((0 : Nat) < 1) <|
  .need (((0 : Nat) + 1 : Nat) ≤ 1) <|
  .need ((35 : Nat) = 35) <|
  .need (((36 : Nat) * 56 : Nat) ≤ 2 ^ 40) <|
  .need ((36 : Nat) ≤ 2 ^ 40) <|
  .need ((0 : Nat) < 1) <|
  .need (((0 : Nat) + 1 : Nat) ≤ 1) <|
  .need ((36 : Nat) = 36) <|
  .need (((37 : Nat) * 56 : Nat) ≤ 2 ^ 40) <|
  .need ((37 : Nat) ≤ 2 ^ 40) <|
  .need ((0 : Nat) < 1) <|
  .need (((0 : Nat) + 1 : Nat) ≤ 1) <|
  .need ((37 : Nat) = 37) <|
  .need (((38 : Nat) * 56 : Nat) ≤ 2 ^ 40) <|
  .need ((38 : Nat) ≤ 2 ^ 40) <|
  .need ((0 : Nat) < 1) <|
  .need (((0 : Nat) + 1 : Nat) ≤ 1) <|
  .need ((38 : Nat) = 38) <|
  .need (((39 : Nat) * 56 : Nat) ≤ 2 ^ 40) <|
  .need ((39 : Nat) ≤ 2 ^ 40) <|
  .need ((0 : Nat) < 1) <|
  .need (((0 : Nat) + 1 : Nat) ≤ 1) <|
  .need ((39 : Nat) = 39) <|
  .need (((40 : Nat) * 56 : Nat) ≤ 2 ^ 40) <|
  .need ((40 : Nat) ≤ 2 ^ 40) <|
  .need ((0 : Nat) < 1) <|
  .need (((0 : Nat) + 1 : Nat) ≤ 1) <|
  .need ((40 : Nat) = 40) <|
  .need (((41 : Nat) * 56 : Nat) ≤ 2 ^ 40) <|
  .need ((41 : Nat) ≤ 2 ^ 40) <|
  .need ((0 : Nat) < 1) <|
  .need (((0 : Nat) + 1 : Nat) ≤ 1) <|
  .need ((41 : Nat) = 41) <|
  .need (((42 : Nat) * 56 : Nat) ≤ 2 ^ 40) <|
  .need ((42 : Nat) ≤ 2 ^ 40) <|
  .need ((0 : Nat) < 1) <|
  .need (((0 : Nat) + 1 : Nat) ≤ 1) <|
  .need ((42 : Nat) = 42) <|
  .need (((43 : Nat) * 56 : Nat) ≤ 2 ^ 40) <|
  .need ((43 : Nat) ≤ 2 ^ 40) <|
  .need ((0 : Nat) < 1) <|
  .need (((0 : Nat) + 1 : Nat) ≤ 1) <|
  .need ((43 : Nat) = 43) <|
  .need (((44 : Nat) * 56 : Nat) ≤ 2 ^ 40) <|
  .need ((44 : Nat) ≤ 2 ^ 40) <|
  .need ((0 : Nat) < 1) <|
  .need (((0 : Nat) + 1 : Nat) ≤ 1) <|
  .need ((44 : Nat) = 44) <|
  .need (((45 : Nat) * 56 : Nat) ≤ 2 ^ 40) <|
  .need ((45 : Nat) ≤ 2 ^ 40) <|
  .need ((0 : Nat) < 1) <|
  .need (((0 : Nat) + 1 : Nat) ≤ 1) <|
  .need ((45 : Nat) = 45) <|
  .need (((46 : Nat) * 56 : Nat) ≤ 2 ^ 40) <|
  .need ((46 : Nat) ≤ 2 ^ 40) <|
  .need ((0 : Nat) < 1) <|
  .need (((0 : Nat) + 1 : Nat) ≤ 1) <|
  .need ((46 : Nat) = 46) <|
  .need (((47 : Nat) * 56 : Nat) ≤ 2 ^ 40) <|
  .need ((47 : Nat) ≤ 2 ^ 40) <|
  .need ((0 : Nat) < 1) <|
  .need (((0 : Nat) + 1 : Nat) ≤ 1) <|
  .need ((47 : Nat) = 47) <|
  .need (((48 : Nat) * 56 : Nat) ≤ 2 ^ 40) <|
  .need ((48 : Nat) ≤ 2 ^ 40) <|
  .need ((0 : Nat) < 1) <|
  .need (((0 : Nat) + 1 : Nat) ≤ 1) <|
  .need ((48 : Nat) = 48) <|
  .need (((49 : Nat) * 56 : Nat) ≤ 2 ^ 40) <|
  .need ((49 : Nat) ≤ 2 ^ 40) <|
  .need ((0 : Nat) < 1) <|
  .need (((0 : Nat) + 1 : Nat) ≤ 1) <|
  .need ((49 : Nat) = 49) <|
  .need (((50 : Nat) * 56 : Nat) ≤ 2 ^ 40) <|
  .need ((50 : Nat) ≤ 2 ^ 40) <|
  .need ((0 : Nat) < 1) <|
  .need (((0 : Nat) + 1 : Nat) ≤ 1) <|
  .need ((50 : Nat) = 50) <|
  .need (((51 : Nat) * 56 : Nat) ≤ 2 ^ 40) <|
  .need ((51 : Nat) ≤ 2 ^ 40) <|
  .need ((0 : Nat) < 1) <|
  .need (((0 : Nat) + 1 : Nat) ≤ 1) <|
  .need ((51 : Nat) = 51) <|
  .need (((52 : Nat) * 56 : Nat) ≤ 2 ^ 40) <|
  .need ((52 : Nat) ≤ 2 ^ 40) <|
  .need ((0 : Nat) < 1) <|
  .need (((0 : Nat) + 1 : Nat) ≤ 1) <|
  .need ((52 : Nat) = 52) <|
  .need (((53 : Nat) * 56 : Nat) ≤ 2 ^ 40) <|
  .need ((53 : Nat) ≤ 2 ^ 40) <|
  .need ((0 : Nat) < 1) <|
  .need (((0 : Nat) + 1 : Nat) ≤ 1) <|
  .need ((53 : Nat) = 53) <|
  .need (((54 : Nat) * 56 : Nat) ≤ 2 ^ 40) <|
  .need ((54 : Nat) ≤ 2 ^ 40) <|
  .need ((0 : Nat) < 1) <|
  .need (((0 : Nat) + 1 : Nat) ≤ 1) <|
  .need ((54 : Nat) = 54) <|
  .need (((55 : Nat) * 56 : Nat) ≤ 2 ^ 40) <|
  .need ((55 : Nat) ≤ 2 ^ 40) <|
  .need ((0 : Nat) < 1) <|
  .need (((0 : Nat) + 1 : Nat) ≤ 1) <|
  .need ((55 : Nat) = 55) <|
  .need (((56 : Nat) * 56 : Nat) ≤ 2 ^ 40) <|
  .need ((56 : Nat) ≤ 2 ^ 40) <|
  .need ((0 : Nat) < 1) <|
  .need (((0 : Nat) + 1 : Nat) ≤ 1) <|
  .need ((56 : Nat) = 56) <|
  .need (((57 : Nat) * 56 : Nat) ≤ 2 ^ 40) <|
  .need ((57 : Nat) ≤ 2 ^ 40) <|
  .need ((0 : Nat) < 1) <|
  .need (((0 : Nat) + 1 : Nat) ≤ 1) <|
  .need ((57 : Nat) = 57) <|
  .need (((58 : Nat) * 56 : Nat) ≤ 2 ^ 40) <|
  .need ((58 : Nat) ≤ 2 ^ 40) <|
  .need ((0 : Nat) < 1) <|
  .need (((0 : Nat) + 1 : Nat) ≤ 1) <|
  .need ((58 : Nat) = 58) <|
  .need (((59 : Nat) * 56 : Nat) ≤ 2 ^ 40) <|
  .need ((59 : Nat) ≤ 2 ^ 40) <|
  .need ((0 : Nat) < 1) <|
  .need (((0 : Nat) + 1 : Nat) ≤ 1) <|
  .need ((59 : Nat) = 59) <|
  .need (((60 : Nat) * 56 : Nat) ≤ 2 ^ 40) <|
  .need ((60 : Nat) ≤ 2 ^ 40) <|
  .need ((0 : Nat) < 1) <|
  .need (((0 : Nat) + 1 : Nat) ≤ 1) <|
  .need ((60 : Nat) = 60) <|
  .need (((61 : Nat) * 56 : Nat) ≤ 2 ^ 40) <|
  .need ((61 : Nat) ≤ 2 ^ 40) <|
  .need ((0 : Nat) < 1) <|
  .need (((0 : Nat) + 1 : Nat) ≤ 1) <|
  .need ((61 : Nat) = 61) <|
  .need (((62 : Nat) * 56 : Nat) ≤ 2 ^ 40) <|
  .need ((62 : Nat) ≤ 2 ^ 40) <|
  .need ((0 : Nat) < 1) <|
  .need (((0 : Nat) + 1 : Nat) ≤ 1) <|
  .need ((62 : Nat) = 62) <|
  .need (((63 : Nat) * 56 : Nat) ≤ 2 ^ 40) <|
  .need ((63 : Nat) ≤ 2 ^ 40) <|
  .need ((0 : Nat) < 1) <|
  .need (((0 : Nat) + 1 : Nat) ≤ 1) <|
  .need ((63 : Nat) = 63) <|
  .need (((64 : Nat) * 56 : Nat) ≤ 2 ^ 40) <|
  .need ((64 : Nat) ≤ 2 ^ 40) <|
  .need ((0 : Nat) < 1) <|
  .need (((0 : Nat) + 1 : Nat) ≤ 1) <|
  .need ((64 : Nat) = 64) <|
  .need (((65 : Nat) * 56 : Nat) ≤ 2 ^ 40) <|
  .need ((65 : Nat) ≤ 2 ^ 40) <|
  .need ((0 : Nat) < 1) <|
  .need (((0 : Nat) + 1 : Nat) ≤ 1) <|
  .need ((65 : Nat) = 65) <|
  .need (((66 : Nat) * 56 : Nat) ≤ 2 ^ 40) <|
  .need ((66 : Nat) ≤ 2 ^ 40) <|
  .need ((0 : Nat) < 1) <|
  .need (((0 : Nat) + 1 : Nat) ≤ 1) <|
  .need ((66 : Nat) = 66) <|
  .need (((67 : Nat) * 56 : Nat) ≤ 2 ^ 40) <|
  .need ((67 : Nat) ≤ 2 ^ 40) <|
  .need ((0 : Nat) < 1) <|
  .need (((0 : Nat) + 1 : Nat) ≤ 1) <|
  .need ((67 : Nat) = 67) <|
  .need (((68 : Nat) * 56 : Nat) ≤ 2 ^ 40) <|
  .need ((68 : Nat) ≤ 2 ^ 40) <|
  .need ((0 : Nat) < 1) <|
  .need (((0 : Nat) + 1 : Nat) ≤ 1) <|
  .need ((68 : Nat) = 68) <|
  .need (((69 : Nat) * 56 : Nat) ≤ 2 ^ 40) <|
  .need ((69 : Nat) ≤ 2 ^ 40) <|
  .need ((0 : Nat) < 1) <|
  .need (((0 : Nat) + 1 : Nat) ≤ 1) <|
  .need ((69 : Nat) = 69) <|
  .need (((70 : Nat) * 56 : Nat) ≤ 2 ^ 40) <|
  .need ((70 : Nat) ≤ 2 ^ 40) <|
  .need ((0 : Nat) < 1) <|
  .need (((0 : Nat) + 1 : Nat) ≤ 1) <|
  .need ((70 : Nat) = 70) <|
  .need (((71 : Nat) * 56 : Nat) ≤ 2 ^ 40) <|
  .need ((71 : Nat) ≤ 2 ^ 40) <|
  .need (((0 : Nat) + 71 : Nat) ≤ 71) <|
  let y0 : (Bool × (Bool × (Bool × Bool))) := (false, (false, (false, false)))
  let y1 : (Int × (Bool × (Bool × (Bool × Bool)))) := (0, y0)
  let y2 : (Int × (Int × (Int × (Int × (Bool × (Bool × (Bool × Bool))))))) := (0, (8, (6, y1)))
  let y3 : (Int × (Int × (Int × (Bool × (Bool × (Bool × Bool)))))) := (8, (8, (4, y0)))
  let y4 : (Int × (Int × (Int × (Int × (Bool × (Bool × (Bool × Bool))))))) := (0, y3)
  let y5 : (Int × (Int × (Int × (Bool × (Bool × (Bool × Bool)))))) := (8, (8, (1, y0)))
  let y6 : (Int × (Int × (Int × (Int × (Bool × (Bool × (Bool × Bool))))))) := (0, y5)
  let y7 : (Int × (Int × (Int × (Bool × (Bool × (Bool × Bool)))))) := (0, (2, y1))
  let y8 : (Int × (Int × (Int × (Bool × (Bool × (Bool × Bool)))))) := (1, (3, (0, (false, (false, (true, false))))))
  .ret [(0, (0, (80, (true, ((-1), (24, y2)))))), (0, (0, (88, (true, ((-1), (25, y2)))))), (0, (0, (232, (false, ((-1), (26, y4)))))), (0, (0, (195, (false, ((-1), (27, (0, (8, (0, y1))))))))), (0, (0, (233, (false, ((-1), (28, y4)))))), (0, (0, (235, (false, ((-1), (28, y6)))))), (0, (0, (255, (false, (4, (28, (0, (8, (3, y1))))))))), (0, (1, (128, (false, ((-1), (29, y4)))))), (0, (0, (112, (false, ((-1), (29, y6)))))), (0, (1, (129, (false, ((-1), (29, (1, y3))))))), (0, (0, (113, (false, ((-1), (29, (1, y5))))))), (0, (1, (130, (false, ((-1), (29, (2, y3))))))), (0, (0, (114, (false, ((-1), (29, (2, y5))))))), (0, (1, (131, (false, ((-1), (29, (3, y3))))))), (0, (0, (115, (false, ((-1), (29, (3, y5))))))), (0, (1, (132, (false, ((-1), (29, (4, y3))))))), (0, (0, (116, (false, ((-1), (29, (4, y5))))))), (0, (1, (133, (false, ((-1), (29, (5, y3))))))), (0, (0, (117, (false, ((-1), (29, (5, y5))))))), (0, (1, (134, (false, ((-1), (29, (6, y3))))))), (0, (0, (118, (false, ((-1), (29, (6, y5))))))), (0, (1, (135, (false, ((-1), (29, (7, y3))))))), (0, (0, (119, (false, ((-1), (29, (7, y5))))))), (0, (1, (136, (false, ((-1), (29, (8, y3))))))), (0, (0, (120, (false, ((-1), (29, (8, y5))))))), (0, (1, (137, (false, ((-1), (29, (9, y3))))))), (0, (0, (121, (false, ((-1), (29, (9, y5))))))), (0, (1, (138, (false, ((-1), (29, (10, y3))))))), (0, (0, (122, (false, ((-1), (29, (10, y5))))))), (0, (1, (139, (false, ((-1), (29, (11, y3))))))), (0, (0, (123, (false, ((-1), (29, (11, y5))))))), (0, (1, (140, (false, ((-1), (29, (12, y3))))))), (0, (0, (124, (false, ((-1), (29, (12, y5))))))), (0, (1, (141, (false, ((-1), (29, (13, y3))))))), (0, (0, (125, (false, ((-1), (29, (13, y5))))))), (0, (1, (142, (false, ((-1), (29, (14, y3))))))), (0, (0, (126, (false, ((-1), (29, (14, y5))))))), (0, (1, (143, (false, ((-1), (29, (15, y3))))))), (0, (0, (127, (false, ((-1), (29, (15, y5))))))), (0, (1, (64, (false, ((-1), (30, (0, y7))))))), (0, (1, (65, (false, ((-1), (30, (1, y7))))))), (0, (1, (66, (false, ((-1), (30, (2, y7))))))), (0, (1, (67, (false, ((-1), (30, (3, y7))))))), (0, (1, (68, (false, ((-1), (30, (4, y7))))))), (0, (1, (69, (false, ((-1), (30, (5, y7))))))), (0, (1, (70, (false, ((-1), (30, (6, y7))))))), (0, (1, (71, (false, ((-1), (30, (7, y7))))))), (0, (1, (72, (false, ((-1), (30, (8, y7))))))), (0, (1, (73, (false, ((-1), (30, (9, y7))))))), (0, (1, (74, (false, ((-1), (30, (10, y7))))))), (0, (1, (75, (false, ((-1), (30, (11, y7))))))), (0, (1, (76, (false, ((-1), (30, (12, y7))))))), (0, (1, (77, (false, ((-1), (30, (13, y7))))))), (0, (1, (78, (false, ((-1), (30, (14, y7))))))), (0, (1, (79, (false, ((-1), (30, (15, y7))))))), (0, (1, (144, (false, (0, (31, (0, y8))))))), (0, (1, (145, (false, (0, (31, (1, y8))))))), (0, (1, (146, (false, (0, (31, (2, y8))))))), (0, (1, (147, (false, (0, (31, (3, y8))))))), (0, (1, (148, (false, (0, (31, (4, y8))))))), (0, (1, (149, (false, (0, (31, (5, y8))))))), (0, (1, (150, (false, (0, (31, (6, y8))))))), (0, (1, (151, (false, (0, (31, (7, y8))))))), (0, (1, (152, (false, (0, (31, (8, y8))))))), (0, (1, (153, (false, (0, (31, (9, y8))))))), (0, (1, (154, (false, (0, (31, (10, y8))))))), (0, (1, (155, (false, (0, (31, (11, y8))))))), (0, (1, (156, (false, (0, (31, (12, y8))))))), (0, (1, (157, (false, (0, (31, (13, y8))))))), (0, (1, (158, (false, (0, (31, (14, y8))))))), (0, (1, (159, (false, (0, (31, (15, y8)))))))]
noncomputable def fn23 (x : Unit) : (List DForm) := (tree23 x).val
def pre23 (x : Unit) : Prop := (tree23 x).ok
noncomputable def spec23 : Spec := { dom := .unit, cod := (.slice CForm), n := 1, pre := pre23, f := fn23 }
theorem run23 (W : Cfg) (Q : (List DForm) → Prop) (x : Unit) : run (env tab22 (fun _ _ => none)) (fun _ _ _ => none) (finS spec23 Q) W 100000 (startFr 23 Tryd.f23 (bodyOf Tryd.f23) (argsOf .unit x)) [] [] = (tree23 x).wp Q := by kernel_rfl
theorem ok23 : SpecOk env0 23 spec23 := SpecOk.env rfl (fun _ _ h => h) (spec_of_tree (E := (env tab22 (fun _ _ => none))) (sp := spec23) (valid _ _) (fun f sp h => SpecOk.env rfl (fun _ _ h => h) (tab22_ok f sp h)) (fn := Tryd.f23) (c := (bodyOf Tryd.f23)) (by kernel_rfl) (by kernel_rfl) tree23 run23 (fun _ h => Tr.gives_val h))

noncomputable def tab23 : FuncId → Option Spec
  | 23 => some spec23
  | f => tab22 f
theorem tab23_ok : ∀ f sp, tab23 f = some sp → SpecOk env0 f sp := by
  intro f sp h
  unfold tab23 at h
  split at h
  · cases h; exact ok23
  · exact tab22_ok f sp h

/-! ### sundial/sundialref07.others -/
noncomputable def tree24 (_x : Unit) : Tr (List DForm) :=
  .need ((0 : Nat) < 9) <|
  .need ((1 : Nat) < 9) <|
  .need ((2 : Nat) < 9) <|
  .need ((3 : Nat) < 9) <|
  .need ((4 : Nat) < 9) <|
  .need ((5 : Nat) < 9) <|
  .need ((6 : Nat) < 9) <|
  .need ((7 : Nat) < 9) <|
  .need ((8 : Nat) < 9) <|
  .need (((0 : Nat) + 9 : Nat) ≤ 9) <|
  let y0 : (Int × (Int × (Int × (Int × (Bool × (Bool × (Bool × Bool))))))) := (0, (0, (2, (0, (false, (false, (true, false)))))))
  let y1 : (Bool × Bool) := (false, false)
  let y2 : (Bool × (Bool × (Bool × Bool))) := (false, (true, y1))
  let y3 : (Int × (Bool × (Bool × (Bool × Bool)))) := (0, y2)
  let y4 : (Int × (Int × (Int × (Int × (Bool × (Bool × (Bool × Bool))))))) := (0, (16, (2, y3)))
  .ret [(0, (1, (182, (false, ((-1), (32, y0)))))), (0, (1, (190, (false, ((-1), (33, y0)))))), (0, (0, (144, (false, ((-1), (34, (0, (8, (0, (0, (false, (false, y1)))))))))))), (243, (1, (111, (false, ((-1), (35, y4)))))), (243, (1, (127, (false, ((-1), (35, (0, (16, (1, y3))))))))), (102, (1, (239, (false, ((-1), (36, y4)))))), (102, (2, (220, (false, ((-1), (37, y4)))))), (102, (2, (221, (false, ((-1), (38, y4)))))), (102, (3, (68, (false, ((-1), (39, (0, (16, (2, (1, y2))))))))))]
noncomputable def fn24 (x : Unit) : (List DForm) := (tree24 x).val
def pre24 (x : Unit) : Prop := (tree24 x).ok
noncomputable def spec24 : Spec := { dom := .unit, cod := (.slice CForm), n := 1, pre := pre24, f := fn24 }
theorem run24 (W : Cfg) (Q : (List DForm) → Prop) (x : Unit) : run (env tab23 (fun _ _ => none)) (fun _ _ _ => none) (finS spec24 Q) W 100000 (startFr 24 Tryd.f24 (bodyOf Tryd.f24) (argsOf .unit x)) [] [] = (tree24 x).wp Q := by kernel_rfl
theorem ok24 : SpecOk env0 24 spec24 := SpecOk.env rfl (fun _ _ h => h) (spec_of_tree (E := (env tab23 (fun _ _ => none))) (sp := spec24) (valid _ _) (fun f sp h => SpecOk.env rfl (fun _ _ h => h) (tab23_ok f sp h)) (fn := Tryd.f24) (c := (bodyOf Tryd.f24)) (by kernel_rfl) (by kernel_rfl) tree24 run24 (fun _ h => Tr.gives_val h))

noncomputable def tab24 : FuncId → Option Spec
  | 24 => some spec24
  | f => tab23 f
theorem tab24_ok : ∀ f sp, tab24 f = some sp → SpecOk env0 f sp := by
  intro f sp h
  unfold tab24 at h
  split at h
  · cases h; exact ok24
  · exact tab23_ok f sp h

/-! ### sundial/sundialref07.Forms -/
noncomputable def tree9 (_x : Unit) : Tr (List DForm) :=
  .need ((0 : Nat) < 8) <|
  .need ((1 : Nat) < 8) <|
  .need ((2 : Nat) < 8) <|
  .need ((3 : Nat) < 8) <|
  .need ((4 : Nat) < 8) <|
  .need ((5 : Nat) < 8) <|
  .need ((6 : Nat) < 8) <|
  .need ((7 : Nat) < 8) <|
  .need (pre22 ()) <|
  let y0 : Nat := (fn22 ()).length
  let y1 : Nat := (8 + y0)
  .ite (ilt ((8 : Nat) : Int) ((y1 : Nat) : Int)) (
    .need ((0 + 8 : Nat) ≤ 8) <|
    .need (((y1 : Nat) * 56 : Nat) ≤ 2 ^ 40) <|
    .need ((y1 : Nat) ≤ 2 ^ 40) <|
    .need (pre23 ()) <|
    .need ((y1 : Nat) = y1) <|
    let y2 : Nat := (fn23 ()).length
    let y3 : Nat := (y1 + y2)
    .need (((y3 : Nat) * 56 : Nat) ≤ 2 ^ 40) <|
    .need ((y3 : Nat) ≤ 2 ^ 40) <|
    .need (pre24 ()) <|
    .need ((y3 : Nat) = y3) <|
    let y4 : Nat := (fn24 ()).length
    let y5 : Nat := (y3 + y4)
    .need (((y5 : Nat) * 56 : Nat) ≤ 2 ^ 40) <|
    .need ((y5 : Nat) ≤ 2 ^ 40) <|
    .need (((0 : Nat) + y5 : Nat) ≤ y5) <|
    let y6 : (Bool × (Bool × Bool)) := (false, (false, false))
    let y7 : (Bool × (Bool × (Bool × Bool))) := (false, y6)
    let y8 : (Int × (Bool × (Bool × (Bool × Bool)))) := (0, y7)
    let y9 : (Bool × (Bool × (Bool × Bool))) := (false, (false, (true, false)))
    let y10 : (Int × (Bool × (Bool × (Bool × Bool)))) := (0, y9)
    let y11 : (List DForm) := [(0, (0, (137, (false, ((-1), (1, (0, (0, (1, y8))))))))), (0, (0, (139, (false, ((-1), (1, (0, (0, (2, y8))))))))), (0, (0, (199, (false, (0, (1, (0, (0, (4, (4, y7)))))))))), (0, (0, (184, (true, ((-1), (1, (0, (8, (7, (8, (true, y6))))))))))), (0, (0, (136, (false, ((-1), (1, (0, (1, (1, y10))))))))), (0, (0, (138, (false, ((-1), (1, (0, (1, (2, y10))))))))), (0, (0, (198, (false, (0, (1, (0, (1, (4, (1, y9)))))))))), (0, (0, (141, (false, ((-1), (2, (0, (0, (2, (0, (false, (false, (false, true)))))))))))))]
    .ret ((((y11 ++ (fn22 ())) ++ (fn23 ())) ++ (fn24 ())).take y5)) (
    .need ((0 + 8 + y0 : Nat) ≤ 8) <|
    .need (pre23 ()) <|
    let y12 : Nat := (fn23 ()).length
    let y13 : Nat := (y1 + y12)
    .ite (ilt ((8 : Nat) : Int) ((y13 : Nat) : Int)) (
      .need ((0 + y1 : Nat) ≤ 8) <|
      .need (((y13 : Nat) * 56 : Nat) ≤ 2 ^ 40) <|
      .need ((y13 : Nat) ≤ 2 ^ 40) <|
      .need (pre24 ()) <|
      .need ((y13 : Nat) = y13) <|
      let y14 : Nat := (fn24 ()).length
      let y15 : Nat := (y13 + y14)
      .need (((y15 : Nat) * 56 : Nat) ≤ 2 ^ 40) <|
      .need ((y15 : Nat) ≤ 2 ^ 40) <|
      .need (((0 : Nat) + y15 : Nat) ≤ y15) <|
      let y16 : (Bool × (Bool × Bool)) := (false, (false, false))
      let y17 : (Bool × (Bool × (Bool × Bool))) := (false, y16)
      let y18 : (Int × (Bool × (Bool × (Bool × Bool)))) := (0, y17)
      let y19 : (Bool × (Bool × (Bool × Bool))) := (false, (false, (true, false)))
      let y20 : (Int × (Bool × (Bool × (Bool × Bool)))) := (0, y19)
      let y21 : (List DForm) := [(0, (0, (137, (false, ((-1), (1, (0, (0, (1, y18))))))))), (0, (0, (139, (false, ((-1), (1, (0, (0, (2, y18))))))))), (0, (0, (199, (false, (0, (1, (0, (0, (4, (4, y17)))))))))), (0, (0, (184, (true, ((-1), (1, (0, (8, (7, (8, (true, y16))))))))))), (0, (0, (136, (false, ((-1), (1, (0, (1, (1, y20))))))))), (0, (0, (138, (false, ((-1), (1, (0, (1, (2, y20))))))))), (0, (0, (198, (false, (0, (1, (0, (1, (4, (1, y19)))))))))), (0, (0, (141, (false, ((-1), (2, (0, (0, (2, (0, (false, (false, (false, true)))))))))))))]
      let y22 : (List DForm) := (spliceL y21 8 (fn22 ()))
      .ret ((((y22.take y1) ++ (fn23 ())) ++ (fn24 ())).take y15)) (
      .need ((0 + y1 + y12 : Nat) ≤ 8) <|
      .need (pre24 ()) <|
      let y23 : Nat := (fn24 ()).length
      let y24 : Nat := (y13 + y23)
      .ite (ilt ((8 : Nat) : Int) ((y24 : Nat) : Int)) (
        .need ((0 + y13 : Nat) ≤ 8) <|
        .need (((y24 : Nat) * 56 : Nat) ≤ 2 ^ 40) <|
        .need ((y24 : Nat) ≤ 2 ^ 40) <|
        .need (((0 : Nat) + y24 : Nat) ≤ y24) <|
        let y25 : (Bool × (Bool × Bool)) := (false, (false, false))
        let y26 : (Bool × (Bool × (Bool × Bool))) := (false, y25)
        let y27 : (Int × (Bool × (Bool × (Bool × Bool)))) := (0, y26)
        let y28 : (Bool × (Bool × (Bool × Bool))) := (false, (false, (true, false)))
        let y29 : (Int × (Bool × (Bool × (Bool × Bool)))) := (0, y28)
        let y30 : (List DForm) := [(0, (0, (137, (false, ((-1), (1, (0, (0, (1, y27))))))))), (0, (0, (139, (false, ((-1), (1, (0, (0, (2, y27))))))))), (0, (0, (199, (false, (0, (1, (0, (0, (4, (4, y26)))))))))), (0, (0, (184, (true, ((-1), (1, (0, (8, (7, (8, (true, y25))))))))))), (0, (0, (136, (false, ((-1), (1, (0, (1, (1, y29))))))))), (0, (0, (138, (false, ((-1), (1, (0, (1, (2, y29))))))))), (0, (0, (198, (false, (0, (1, (0, (1, (4, (1, y28)))))))))), (0, (0, (141, (false, ((-1), (2, (0, (0, (2, (0, (false, (false, (false, true)))))))))))))]
        let y31 : (List DForm) := (spliceL y30 8 (fn22 ()))
        let y32 : (List DForm) := (spliceL y31 (0 + y1) (fn23 ()))
        .ret (((y32.take y13) ++ (fn24 ())).take y24)) (
        .need ((0 + y13 + y23 : Nat) ≤ 8) <|
        .need (((0 : Nat) + y24 : Nat) ≤ 8) <|
        let y33 : (Bool × (Bool × Bool)) := (false, (false, false))
        let y34 : (Bool × (Bool × (Bool × Bool))) := (false, y33)
        let y35 : (Int × (Bool × (Bool × (Bool × Bool)))) := (0, y34)
        let y36 : (Bool × (Bool × (Bool × Bool))) := (false, (false, (true, false)))
        let y37 : (Int × (Bool × (Bool × (Bool × Bool)))) := (0, y36)
        let y38 : (List DForm) := [(0, (0, (137, (false, ((-1), (1, (0, (0, (1, y35))))))))), (0, (0, (139, (false, ((-1), (1, (0, (0, (2, y35))))))))), (0, (0, (199, (false, (0, (1, (0, (0, (4, (4, y34)))))))))), (0, (0, (184, (true, ((-1), (1, (0, (8, (7, (8, (true, y33))))))))))), (0, (0, (136, (false, ((-1), (1, (0, (1, (1, y37))))))))), (0, (0, (138, (false, ((-1), (1, (0, (1, (2, y37))))))))), (0, (0, (198, (false, (0, (1, (0, (1, (4, (1, y36)))))))))), (0, (0, (141, (false, ((-1), (2, (0, (0, (2, (0, (false, (false, (false, true)))))))))))))]
        let y39 : (List DForm) := (spliceL y38 8 (fn22 ()))
        let y40 : (List DForm) := (spliceL y39 (0 + y1) (fn23 ()))
        .ret ((spliceL y40 (0 + y13) (fn24 ())).take y24))))
noncomputable def fn9 (x : Unit) : (List DForm) := (tree9 x).val
def pre9 (x : Unit) : Prop := (tree9 x).ok
noncomputable def spec9 : Spec := { dom := .unit, cod := (.slice CForm), n := 1, pre := pre9, f := fn9 }
theorem run9 (W : Cfg) (Q : (List DForm) → Prop) (x : Unit) : run (env tab24 (fun _ _ => none)) (fun _ _ _ => none) (finS spec9 Q) W 100000 (startFr 9 Tryd.f9 (bodyOf Tryd.f9) (argsOf .unit x)) [] [] = (tree9 x).wp Q := by kernel_rfl
theorem ok9 : SpecOk env0 9 spec9 := SpecOk.env rfl (fun _ _ h => h) (spec_of_tree (E := (env tab24 (fun _ _ => none))) (sp := spec9) (valid _ _) (fun f sp h => SpecOk.env rfl (fun _ _ h => h) (tab24_ok f sp h)) (fn := Tryd.f9) (c := (bodyOf Tryd.f9)) (by kernel_rfl) (by kernel_rfl) tree9 run9 (fun _ h => Tr.gives_val h))

noncomputable def tab9 : FuncId → Option Spec
  | 9 => some spec9
  | f => tab24 f
theorem tab9_ok : ∀ f sp, tab9 f = some sp → SpecOk env0 f sp := by
  intro f sp h
  unfold tab9 at h
  split at h
  · cases h; exact ok9
  · exact tab24_ok f sp h

/-! ### sundial/codes.code -/
noncomputable def tree25 (x : (DForm × Int)) : Tr Bool :=
  let y0 : (Int × (Bool × (Int × (Int × (Int × (Int × (Int × (Int × (Bool × (Bool × (Bool × Bool))))))))))) := x.1.2.2
  .ite y0.2.1 (
    let y1 : Int := y0.1
    .ret (ieq (iandn .u8 x.2 7) (iandn .u8 y1 7))) (
    let y2 : Int := y0.1
    .ret (ieq x.2 y2))
noncomputable def fn25 (x : (DForm × Int)) : Bool := (tree25 x).val
def pre25 (x : (DForm × Int)) : Prop := (tree25 x).ok
noncomputable def spec25 : Spec := { dom := (.st CForm (.st1 (.int .u8))), cod := .bool, n := 1, pre := pre25, f := fn25 }
theorem run25 (W : Cfg) (Q : Bool → Prop) (x : (DForm × Int)) : run (env tab9 (fun _ _ => none)) (fun _ _ _ => none) (finS spec25 Q) W 100000 (startFr 25 Tryd.f25 (bodyOf Tryd.f25) (argsOf (.st CForm (.st1 (.int .u8))) x)) [] [] = (tree25 x).wp Q := by kernel_rfl
theorem ok25 : SpecOk env0 25 spec25 := SpecOk.env rfl (fun _ _ h => h) (spec_of_tree (E := (env tab9 (fun _ _ => none))) (sp := spec25) (valid _ _) (fun f sp h => SpecOk.env rfl (fun _ _ h => h) (tab9_ok f sp h)) (fn := Tryd.f25) (c := (bodyOf Tryd.f25)) (by kernel_rfl) (by kernel_rfl) tree25 run25 (fun _ h => Tr.gives_val h))

noncomputable def tab25 : FuncId → Option Spec
  | 25 => some spec25
  | f => tab9 f
theorem tab25_ok : ∀ f sp, tab25 f = some sp → SpecOk env0 f sp := by
  intro f sp h
  unfold tab25 at h
  split at h
  · cases h; exact ok25
  · exact tab9_ok f sp h

/-! ### sundial/codes.Fits -/
noncomputable def tree12 (x : (DForm × (Int × (Int × (Int × Int))))) : Tr Bool :=
  .ite ((ieq x.1.1 x.2.1) == true) (
    let y0 : (Int × (Int × (Bool × (Int × (Int × (Int × (Int × (Int × (Int × (Bool × (Bool × (Bool × Bool)))))))))))) := x.1.2
    let y1 : (Int × (Int × Int)) := x.2.2
    .ite ((ieq y0.1 y1.1) == true) (
      let y2 : (Int × Int) := y1.2
      let y3 : (DForm × Int) := (x.1, y2.1)
      .need (pre25 y3) <|
      .ite ((fn25 y3) == true) (
        let y4 : Int := y0.2.2.2.1
        .ite ((ieq y4 (-1)) == false) (
          .ret (ieq y4 y2.2)) (
          .ret true)) (
        .ret false)) (
      .ret false)) (
    .ret false)
noncomputable def fn12 (x : (DForm × (Int × (Int × (Int × Int))))) : Bool := (tree12 x).val
def pre12 (x : (DForm × (Int × (Int × (Int × Int))))) : Prop := (tree12 x).ok
noncomputable def spec12 : Spec := { dom := (.st CForm (.st (.int .u8) (.st (.int .u8) (.st (.int .u8) (.st1 (.int .i64)))))), cod := .bool, n := 1, pre := pre12, f := fn12 }
theorem run12 (W : Cfg) (Q : Bool → Prop) (x : (DForm × (Int × (Int × (Int × Int))))) : run (env tab25 (fun _ _ => none)) (fun _ _ _ => none) (finS spec12 Q) W 100000 (startFr 12 Tryd.f12 (bodyOf Tryd.f12) (argsOf (.st CForm (.st (.int .u8) (.st (.int .u8) (.st (.int .u8) (.st1 (.int .i64)))))) x)) [] [] = (tree12 x).wp Q := by kernel_rfl
theorem ok12 : SpecOk env0 12 spec12 := SpecOk.env rfl (fun _ _ h => h) (spec_of_tree (E := (env tab25 (fun _ _ => none))) (sp := spec12) (valid _ _) (fun f sp h => SpecOk.env rfl (fun _ _ h => h) (tab25_ok f sp h)) (fn := Tryd.f12) (c := (bodyOf Tryd.f12)) (by kernel_rfl) (by kernel_rfl) tree12 run12 (fun _ h => Tr.gives_val h))

noncomputable def tab12 : FuncId → Option Spec
  | 12 => some spec12
  | f => tab25 f
theorem tab12_ok : ∀ f sp, tab12 f = some sp → SpecOk env0 f sp := by
  intro f sp h
  unfold tab12 at h
  split at h
  · cases h; exact ok12
  · exact tab25_ok f sp h

/-! ### sundial/codes.Find -/
inductive J10 where
  | h0 (v0 : (List (List DForm))) (v1 : Int) (v24 : Bool)
  | h1 (v0 : (List (List DForm))) (v1 : Int) (v2 : (List DForm)) (v3 : Int) (v4 : Int) (v27 : Bool)
noncomputable def tree10 (_x : (Int × (Int × (Int × Int)))) : Tr (J10 ⊕ (DForm × Bool)) :=
  .need (pre29 ()) <|
  .need (pre30 ()) <|
  .need (pre31 ()) <|
  .need (pre32 ()) <|
  .need ((0 : Nat) < 4) <|
  .need ((1 : Nat) < 4) <|
  .need ((2 : Nat) < 4) <|
  .need ((3 : Nat) < 4) <|
  .ret (.inl (.h0 [(fn29 ()), (fn30 ()), (fn31 ()), (fn32 ())] 0 false))
noncomputable def step10 (x : (Int × (Int × (Int × Int)))) : J10 → Tr (J10 ⊕ (DForm × Bool))
  | .h0 v0 v1 v24 =>
    .ite (ilt v1 4) (
      .need ((0 : Int) ≤ v1) <|
      .need ((v1 : Int) < 4) <|
      .need (((v1).toNat : Nat) < 4) <|
      let y0 : (List DForm) := (rdc (.slice CForm) v0 (v1).toNat)
      .ret (.inl (.h1 v0 v1 y0 (y0.length : Int) 0 v24))) (
      .ret (.inr ((0, (0, (0, (false, (0, (0, (0, (0, (0, (0, (false, (false, (false, false))))))))))))), v24)))
  | .h1 v0 v1 v2 v3 v4 v27 =>
    .ite (ilt v4 v3) (
      .need ((0 : Int) ≤ v4) <|
      .need (v4 < (v2.length : Int)) <|
      let y0 : DForm := (rdc CForm v2 (v4).toNat)
      let y1 : (DForm × (Int × (Int × (Int × Int)))) := (y0, x)
      .need (pre12 y1) <|
      let y2 : Bool := (fn12 y1)
      .ite y2 (
        .ret (.inr (y0, y2))) (
        .ret (.inl (.h1 v0 v1 v2 v3 (iadd .i64 v4 1) y2)))) (
      .ret (.inl (.h0 v0 (iadd .i64 v1 1) v27)))
noncomputable def head10 (x : (Int × (Int × (Int × Int)))) : J10 → Head
  | .h0 v0 v1 v24 =>
    { fr := { id := 28, kind := (.iter 7), T := [(.yld 7)] ++ List.replicate 9 .any ++ [(.arr 4 (.slice CForm) v0), (.int .i64 v1)] ++ List.replicate 14 .any, items := [.lp (subc [1, 0, 0] (bodyOf Tryd.f28)), .blk 0], D := [], base := 8 },
      stk := [{ id := 10, kind := .top, T := [(.int .u8 x.1), (.int .u8 x.2.1), (.int .u8 x.2.2.1), (.int .i64 x.2.2.2), (.ptr 0 []), (.ptr 1 []), (.ptr 2 []), (.ptr 3 []), (.ptr 4 []), (.ptr 5 []), .undef, (.fn 28 [])] ++ List.replicate 11 .undef, items := [.fin 7, .blk 0, .code (subc [1, 0, 1, 1] (bodyOf Tryd.f10)), .scp], D := [6], base := 0 }],
      H := [.cell true 5 (.int .u8 x.1), .cell true 5 (.int .u8 x.2.1), .cell true 5 (.int .u8 x.2.2.1), .cell true 3 (.int .i64 x.2.2.2), .cell true 23 (.agg [1, 1, 1, 1, 1, 1, 1, 1, 1, 1, 1, 1, 1, 1] [(.int .u8 0), (.int .u8 0), (.int .u8 0), (.bool false), (.int .i64 0), (.int .u8 0), (.int .u8 0), (.int .i64 0), (.int .u8 0), (.int .i64 0), (.bool false), (.bool false), (.bool false), (.bool false)]), .cell true 4 (.bool v24), .dfd, .loop .ready none 10 (List.replicate 4 .any ++ [(.ptr 0 []), (.ptr 1 []), (.ptr 2 []), (.ptr 3 []), (.ptr 4 []), (.ptr 5 [])] ++ List.replicate 13 .any) [12] (subc [1, 0, 1, 0, 1, 0, 0] (bodyOf Tryd.f10)) (subc [1, 0, 1, 0, 1, 0, 1] (bodyOf Tryd.f10)) 6] }
  | .h1 v0 v1 v2 v3 v4 v27 =>
    { fr := { id := 28, kind := (.iter 7), T := [(.yld 7)] ++ List.replicate 9 .any ++ [(.arr 4 (.slice CForm) v0), (.int .i64 v1), .any, .any, (.fsl CForm v2), (.int .i64 v3), (.int .i64 v4)] ++ List.replicate 9 .any, items := [.lp (subc [1, 0, 0, 1, 1, 0, 0, 1, 1, 0, 0] (bodyOf Tryd.f28)), .blk 2, .blk 1, .code (subc [1, 0, 0, 1, 1, 1] (bodyOf Tryd.f28)), .lp (subc [1, 0, 0] (bodyOf Tryd.f28)), .blk 0], D := [], base := 8 },
      stk := [{ id := 10, kind := .top, T := [(.int .u8 x.1), (.int .u8 x.2.1), (.int .u8 x.2.2.1), (.int .i64 x.2.2.2), (.ptr 0 []), (.ptr 1 []), (.ptr 2 []), (.ptr 3 []), (.ptr 4 []), (.ptr 5 []), .undef, (.fn 28 [])] ++ List.replicate 11 .undef, items := [.fin 7, .blk 0, .code (subc [1, 0, 1, 1] (bodyOf Tryd.f10)), .scp], D := [6], base := 0 }],
      H := [.cell true 5 (.int .u8 x.1), .cell true 5 (.int .u8 x.2.1), .cell true 5 (.int .u8 x.2.2.1), .cell true 3 (.int .i64 x.2.2.2), .cell true 23 (.agg [1, 1, 1, 1, 1, 1, 1, 1, 1, 1, 1, 1, 1, 1] [(.int .u8 0), (.int .u8 0), (.int .u8 0), (.bool false), (.int .i64 0), (.int .u8 0), (.int .u8 0), (.int .i64 0), (.int .u8 0), (.int .i64 0), (.bool false), (.bool false), (.bool false), (.bool false)]), .cell true 4 (.bool v27), .dfd, .loop .ready none 10 (List.replicate 4 .any ++ [(.ptr 0 []), (.ptr 1 []), (.ptr 2 []), (.ptr 3 []), (.ptr 4 []), (.ptr 5 [])] ++ List.replicate 13 .any) [12] (subc [1, 0, 1, 0, 1, 0, 0] (bodyOf Tryd.f10)) (subc [1, 0, 1, 0, 1, 0, 1] (bodyOf Tryd.f10)) 6] }
noncomputable def stop10 : FuncId → Nat → Nat → Option Cut
  | 28, 0, 8 => some { tmps := [0, 10, 11], loops := [(7, [4, 5, 6, 7, 8, 9])], dead := [] }
  | 28, 4, 8 => some { tmps := [0, 10, 11, 14, 15, 16], loops := [(7, [4, 5, 6, 7, 8, 9])], dead := [] }
  | _, _, _ => none
noncomputable def fn10 (x : (Int × (Int × (Int × Int)))) : (DForm × Bool) := endVal (TC.dflt (.st CForm (.st1 .bool))) (step10 x) (tree10 x)
def pre10 (x : (Int × (Int × (Int × Int)))) : Prop := ∃ r, Ends (step10 x) r (tree10 x)
noncomputable def spec10 : Spec := { dom := (.st (.int .u8) (.st (.int .u8) (.st (.int .u8) (.st1 (.int .i64))))), cod := (.st CForm (.st1 .bool)), n := 2, pre := pre10, f := fn10 }
theorem run10 (W : Cfg) (Q : (DForm × Bool) → Prop) (x : (Int × (Int × (Int × Int)))) : run (env tab12 (fun _ _ => none)) stop10 (finS spec10 Q) W 100000 (startFr 10 Tryd.f10 (bodyOf Tryd.f10) (argsOf (.st (.int .u8) (.st (.int .u8) (.st (.int .u8) (.st1 (.int .i64))))) x)) [] [] = (tree10 x).wp (kont W Q (head10 x)) := by kernel_rfl
theorem run10h0 (W : Cfg) (Q : (DForm × Bool) → Prop) (x : (Int × (Int × (Int × Int)))) (v0 : (List (List DForm))) (v1 : Int) (v24 : Bool) : run (env tab12 (fun _ _ => none)) stop10 (finS spec10 Q) W 100000 (head10 x (.h0 v0 v1 v24)).fr.enter (head10 x (.h0 v0 v1 v24)).stk (head10 x (.h0 v0 v1 v24)).H = (step10 x (.h0 v0 v1 v24)).wp (kont W Q (head10 x)) := by kernel_rfl
theorem run10h1 (W : Cfg) (Q : (DForm × Bool) → Prop) (x : (Int × (Int × (Int × Int)))) (v0 : (List (List DForm))) (v1 : Int) (v2 : (List DForm)) (v3 : Int) (v4 : Int) (v27 : Bool) : run (env tab12 (fun _ _ => none)) stop10 (finS spec10 Q) W 100000 (head10 x (.h1 v0 v1 v2 v3 v4 v27)).fr.enter (head10 x (.h1 v0 v1 v2 v3 v4 v27)).stk (head10 x (.h1 v0 v1 v2 v3 v4 v27)).H = (step10 x (.h1 v0 v1 v2 v3 v4 v27)).wp (kont W Q (head10 x)) := by kernel_rfl
theorem runs10 (W : Cfg) (Q : (DForm × Bool) → Prop) (x : (Int × (Int × (Int × Int)))) : ∀ j : J10, run (env tab12 (fun _ _ => none)) stop10 (finS spec10 Q) W 100000 (head10 x j).fr.enter (head10 x j).stk (head10 x j).H = (step10 x j).wp (kont W Q (head10 x))
  | .h0 v0 v1 v24 => run10h0 W Q x v0 v1 v24
  | .h1 v0 v1 v2 v3 v4 v27 => run10h1 W Q x v0 v1 v2 v3 v4 v27
theorem ok10 : SpecOk env0 10 spec10 := SpecOk.env rfl (fun _ _ h => h) (spec_of_trees (E := (env tab12 (fun _ _ => none))) (sp := spec10) (valid _ _) (fun f sp h => SpecOk.env rfl (fun _ _ h => h) (tab12_ok f sp h)) (fn := Tryd.f10) (c := (bodyOf Tryd.f10)) (by kernel_rfl) (by kernel_rfl) tree10 step10 head10 run10 runs10 (fun _ h => endVal_ends h))

noncomputable def tab10 : FuncId → Option Spec
  | 10 => some spec10
  | f => tab12 f
theorem tab10_ok : ∀ f sp, tab10 f = some sp → SpecOk env0 f sp := by
  intro f sp h
  unfold tab10 at h
  split at h
  · cases h; exact ok10
  · exact tab12_ok f sp h

/-! ### sundial/sundialref07.code -/
noncomputable def tree26 (x : (DForm × Int)) : Tr Bool :=
  let y0 : (Int × (Bool × (Int × (Int × (Int × (Int × (Int × (Int × (Bool × (Bool × (Bool × Bool))))))))))) := x.1.2.2
  .ite y0.2.1 (
    let y1 : Int := y0.1
    .ret (ieq (iand .u8 x.2 248) (iand .u8 y1 248))) (
    let y2 : Int := y0.1
    .ret (ieq x.2 y2))
noncomputable def fn26 (x : (DForm × Int)) : Bool := (tree26 x).val
def pre26 (x : (DForm × Int)) : Prop := (tree26 x).ok
noncomputable def spec26 : Spec := { dom := (.st CForm (.st1 (.int .u8))), cod := .bool, n := 1, pre := pre26, f := fn26 }
theorem run26 (W : Cfg) (Q : Bool → Prop) (x : (DForm × Int)) : run (env tab10 (fun _ _ => none)) (fun _ _ _ => none) (finS spec26 Q) W 100000 (startFr 26 Tryd.f26 (bodyOf Tryd.f26) (argsOf (.st CForm (.st1 (.int .u8))) x)) [] [] = (tree26 x).wp Q := by kernel_rfl
theorem ok26 : SpecOk env0 26 spec26 := SpecOk.env rfl (fun _ _ h => h) (spec_of_tree (E := (env tab10 (fun _ _ => none))) (sp := spec26) (valid _ _) (fun f sp h => SpecOk.env rfl (fun _ _ h => h) (tab10_ok f sp h)) (fn := Tryd.f26) (c := (bodyOf Tryd.f26)) (by kernel_rfl) (by kernel_rfl) tree26 run26 (fun _ h => Tr.gives_val h))

noncomputable def tab26 : FuncId → Option Spec
  | 26 => some spec26
  | f => tab10 f
theorem tab26_ok : ∀ f sp, tab26 f = some sp → SpecOk env0 f sp := by
  intro f sp h
  unfold tab26 at h
  split at h
  · cases h; exact ok26
  · exact tab10_ok f sp h

/-! ### sundial/sundialref07.Fits -/
noncomputable def tree13 (x : (DForm × (Int × (Int × (Int × Int))))) : Tr Bool :=
  .ite ((ieq x.1.1 x.2.1) == true) (
    let y0 : (Int × (Int × (Bool × (Int × (Int × (Int × (Int × (Int × (Int × (Bool × (Bool × (Bool × Bool)))))))))))) := x.1.2
    let y1 : (Int × (Int × Int)) := x.2.2
    .ite ((ieq y0.1 y1.1) == true) (
      let y2 : (Int × Int) := y1.2
      let y3 : (DForm × Int) := (x.1, y2.1)
      .need (pre26 y3) <|
      .ite ((fn26 y3) == true) (
        let y4 : Int := y0.2.2.2.1
        .ite ((ieq y4 (-1)) == false) (
          .ret (ieq y4 y2.2)) (
          .ret true)) (
        .ret false)) (
      .ret false)) (
    .ret false)
noncomputable def fn13 (x : (DForm × (Int × (Int × (Int × Int))))) : Bool := (tree13 x).val
def pre13 (x : (DForm × (Int × (Int × (Int × Int))))) : Prop := (tree13 x).ok
noncomputable def spec13 : Spec := { dom := (.st CForm (.st (.int .u8) (.st (.int .u8) (.st (.int .u8) (.st1 (.int .i64)))))), cod := .bool, n := 1, pre := pre13, f := fn13 }
theorem run13 (W : Cfg) (Q : Bool → Prop) (x : (DForm × (Int × (Int × (Int × Int))))) : run (env tab26 (fun _ _ => none)) (fun _ _ _ => none) (finS spec13 Q) W 100000 (startFr 13 Tryd.f13 (bodyOf Tryd.f13) (argsOf (.st CForm (.st (.int .u8) (.st (.int .u8) (.st (.int .u8) (.st1 (.int .i64)))))) x)) [] [] = (tree13 x).wp Q := by kernel_rfl
theorem ok13 : SpecOk env0 13 spec13 := SpecOk.env rfl (fun _ _ h => h) (spec_of_tree (E := (env tab26 (fun _ _ => none))) (sp := spec13) (valid _ _) (fun f sp h => SpecOk.env rfl (fun _ _ h => h) (tab26_ok f sp h)) (fn := Tryd.f13) (c := (bodyOf Tryd.f13)) (by kernel_rfl) (by kernel_rfl) tree13 run13 (fun _ h => Tr.gives_val h))

noncomputable def tab13 : FuncId → Option Spec
  | 13 => some spec13
  | f => tab26 f
theorem tab13_ok : ∀ f sp, tab13 f = some sp → SpecOk env0 f sp := by
  intro f sp h
  unfold tab13 at h
  split at h
  · cases h; exact ok13
  · exact tab26_ok f sp h

/-! ### sundial/sundialref07.Find -/
inductive J11 where
  | h0 (v4 : (List DForm)) (v5 : Int)
noncomputable def tree11 (_x : (Int × (Int × (Int × Int)))) : Tr (J11 ⊕ (DForm × Bool)) :=
  .need (pre9 ()) <|
  .ret (.inl (.h0 (fn9 ()) 0))
noncomputable def step11 (x : (Int × (Int × (Int × Int)))) : J11 → Tr (J11 ⊕ (DForm × Bool))
  | .h0 v4 v5 =>
    .ite (ilt v5 (v4.length : Int)) (
      .need ((0 : Int) ≤ v5) <|
      .need (v5 < (v4.length : Int)) <|
      let y0 : DForm := (rdc CForm v4 (v5).toNat)
      let y1 : (DForm × (Int × (Int × (Int × Int)))) := (y0, x)
      .need (pre13 y1) <|
      .ite (fn13 y1) (
        .need ((0 : Int) ≤ v5) <|
        .need (v5 < (v4.length : Int)) <|
        .ret (.inr (y0, true))) (
        .ret (.inl (.h0 v4 (iadd .i64 v5 1))))) (
      .ret (.inr ((0, (0, (0, (false, (0, (0, (0, (0, (0, (0, (false, (false, (false, false))))))))))))), false)))
noncomputable def head11 (x : (Int × (Int × (Int × Int)))) : J11 → Head
  | .h0 v4 v5 =>
    { fr := { id := 11, kind := .top, T := [(.int .u8 x.1), (.int .u8 x.2.1), (.int .u8 x.2.2.1), (.int .i64 x.2.2.2)] ++ List.replicate 4 .any ++ [(.ptr 0 []), .any, (.fsl CForm v4), (.int .i64 v5)] ++ List.replicate 21 .any, items := [.lp (subc [1, 1, 0, 1, 0, 0] (bodyOf Tryd.f11)), .blk 0, .code (subc [1, 1, 1] (bodyOf Tryd.f11))], D := [], base := 0 },
      stk := [],
      H := [.cell true 23 (.agg [1, 1, 1, 1, 1, 1, 1, 1, 1, 1, 1, 1, 1, 1] [(.int .u8 0), (.int .u8 0), (.int .u8 0), (.bool false), (.int .i64 0), (.int .u8 0), (.int .u8 0), (.int .i64 0), (.int .u8 0), (.int .i64 0), (.bool false), (.bool false), (.bool false), (.bool false)])] }
noncomputable def stop11 : FuncId → Nat → Nat → Option Cut
  | 11, 0, 0 => some { tmps := [0, 1, 2, 3, 8, 10, 11], loops := [], dead := [] }
  | _, _, _ => none
noncomputable def fn11 (x : (Int × (Int × (Int × Int)))) : (DForm × Bool) := endVal (TC.dflt (.st CForm (.st1 .bool))) (step11 x) (tree11 x)
def pre11 (x : (Int × (Int × (Int × Int)))) : Prop := ∃ r, Ends (step11 x) r (tree11 x)
noncomputable def spec11 : Spec := { dom := (.st (.int .u8) (.st (.int .u8) (.st (.int .u8) (.st1 (.int .i64))))), cod := (.st CForm (.st1 .bool)), n := 2, pre := pre11, f := fn11 }
theorem run11 (W : Cfg) (Q : (DForm × Bool) → Prop) (x : (Int × (Int × (Int × Int)))) : run (env tab13 (fun _ _ => none)) stop11 (finS spec11 Q) W 100000 (startFr 11 Tryd.f11 (bodyOf Tryd.f11) (argsOf (.st (.int .u8) (.st (.int .u8) (.st (.int .u8) (.st1 (.int .i64))))) x)) [] [] = (tree11 x).wp (kont W Q (head11 x)) := by kernel_rfl
theorem run11h0 (W : Cfg) (Q : (DForm × Bool) → Prop) (x : (Int × (Int × (Int × Int)))) (v4 : (List DForm)) (v5 : Int) : run (env tab13 (fun _ _ => none)) stop11 (finS spec11 Q) W 100000 (head11 x (.h0 v4 v5)).fr.enter (head11 x (.h0 v4 v5)).stk (head11 x (.h0 v4 v5)).H = (step11 x (.h0 v4 v5)).wp (kont W Q (head11 x)) := by kernel_rfl
theorem runs11 (W : Cfg) (Q : (DForm × Bool) → Prop) (x : (Int × (Int × (Int × Int)))) : ∀ j : J11, run (env tab13 (fun _ _ => none)) stop11 (finS spec11 Q) W 100000 (head11 x j).fr.enter (head11 x j).stk (head11 x j).H = (step11 x j).wp (kont W Q (head11 x))
  | .h0 v4 v5 => run11h0 W Q x v4 v5
theorem ok11 : SpecOk env0 11 spec11 := SpecOk.env rfl (fun _ _ h => h) (spec_of_trees (E := (env tab13 (fun _ _ => none))) (sp := spec11) (valid _ _) (fun f sp h => SpecOk.env rfl (fun _ _ h => h) (tab13_ok f sp h)) (fn := Tryd.f11) (c := (bodyOf Tryd.f11)) (by kernel_rfl) (by kernel_rfl) tree11 step11 head11 run11 runs11 (fun _ h => endVal_ends h))

noncomputable def tab11 : FuncId → Option Spec
  | 11 => some spec11
  | f => tab13 f
theorem tab11_ok : ∀ f sp, tab11 f = some sp → SpecOk env0 f sp := by
  intro f sp h
  unfold tab11 at h
  split at h
  · cases h; exact ok11
  · exact tab13_ok f sp h

/-! ### sundial/codes.Digits -/
inductive J14 where
  | h0 (v0 : (List (List DForm))) (v1 : Int)
  | h1 (v0 : (List (List DForm))) (v1 : Int) (v2 : (List DForm)) (v3 : Int) (v4 : Int)
noncomputable def tree14 (_x : (Int × (Int × Int))) : Tr (J14 ⊕ Bool) :=
  .need (pre29 ()) <|
  .need (pre30 ()) <|
  .need (pre31 ()) <|
  .need (pre32 ()) <|
  .need ((0 : Nat) < 4) <|
  .need ((1 : Nat) < 4) <|
  .need ((2 : Nat) < 4) <|
  .need ((3 : Nat) < 4) <|
  .ret (.inl (.h0 [(fn29 ()), (fn30 ()), (fn31 ()), (fn32 ())] 0))
noncomputable def step14 (x : (Int × (Int × Int))) : J14 → Tr (J14 ⊕ Bool)
  | .h0 v0 v1 =>
    .ite (ilt v1 4) (
      .need ((0 : Int) ≤ v1) <|
      .need ((v1 : Int) < 4) <|
      .need (((v1).toNat : Nat) < 4) <|
      let y0 : (List DForm) := (rdc (.slice CForm) v0 (v1).toNat)
      .ret (.inl (.h1 v0 v1 y0 (y0.length : Int) 0))) (
      .ret (.inr false))
  | .h1 v0 v1 v2 v3 v4 =>
    .ite (ilt v4 v3) (
      .need ((0 : Int) ≤ v4) <|
      .need (v4 < (v2.length : Int)) <|
      let y0 : DForm := (rdc CForm v2 (v4).toNat)
      let y1 : Int := y0.2.2.2.2.1
      .ite ((ine y1 (-1)) == true) (
        let y2 : (DForm × (Int × (Int × (Int × Int)))) := (y0, (x.1, (x.2.1, (x.2.2, y1))))
        .need (pre12 y2) <|
        .ite (fn12 y2) (
          .ret (.inr true)) (
          let y3 : Int := (iadd .i64 v4 1)
          .ret (.inl (.h1 v0 v1 v2 v3 y3)))) (
        let y4 : Int := (iadd .i64 v4 1)
        .ret (.inl (.h1 v0 v1 v2 v3 y4)))) (
      .ret (.inl (.h0 v0 (iadd .i64 v1 1))))
noncomputable def head14 (x : (Int × (Int × Int))) : J14 → Head
  | .h0 v0 v1 =>
    { fr := { id := 28, kind := (.iter 5), T := [(.yld 5)] ++ List.replicate 9 .any ++ [(.arr 4 (.slice CForm) v0), (.int .i64 v1)] ++ List.replicate 14 .any, items := [.lp (subc [1, 0, 0] (bodyOf Tryd.f28)), .blk 0], D := [], base := 6 },
      stk := [{ id := 14, kind := .top, T := [(.int .u8 x.1), (.int .u8 x.2.1), (.int .u8 x.2.2), (.ptr 0 []), (.ptr 1 []), (.ptr 2 []), (.ptr 3 []), .undef, (.fn 28 [])] ++ List.replicate 13 .undef, items := [.fin 5, .blk 0, .code (subc [1, 1] (bodyOf Tryd.f14))], D := [4], base := 0 }],
      H := [.cell true 5 (.int .u8 x.1), .cell true 5 (.int .u8 x.2.1), .cell true 5 (.int .u8 x.2.2), .cell true 4 (.bool false), .dfd, .loop .ready none 14 ([.any, .any, .any, (.ptr 0 []), (.ptr 1 []), (.ptr 2 []), (.ptr 3 [])] ++ List.replicate 15 .any) [9] (subc [1, 0, 1, 0, 0] (bodyOf Tryd.f14)) (subc [1, 0, 1, 0, 1] (bodyOf Tryd.f14)) 4] }
  | .h1 v0 v1 v2 v3 v4 =>
    { fr := { id := 28, kind := (.iter 5), T := [(.yld 5)] ++ List.replicate 9 .any ++ [(.arr 4 (.slice CForm) v0), (.int .i64 v1), .any, .any, (.fsl CForm v2), (.int .i64 v3), (.int .i64 v4)] ++ List.replicate 9 .any, items := [.lp (subc [1, 0, 0, 1, 1, 0, 0, 1, 1, 0, 0] (bodyOf Tryd.f28)), .blk 2, .blk 1, .code (subc [1, 0, 0, 1, 1, 1] (bodyOf Tryd.f28)), .lp (subc [1, 0, 0] (bodyOf Tryd.f28)), .blk 0], D := [], base := 6 },
      stk := [{ id := 14, kind := .top, T := [(.int .u8 x.1), (.int .u8 x.2.1), (.int .u8 x.2.2), (.ptr 0 []), (.ptr 1 []), (.ptr 2 []), (.ptr 3 []), .undef, (.fn 28 [])] ++ List.replicate 13 .undef, items := [.fin 5, .blk 0, .code (subc [1, 1] (bodyOf Tryd.f14))], D := [4], base := 0 }],
      H := [.cell true 5 (.int .u8 x.1), .cell true 5 (.int .u8 x.2.1), .cell true 5 (.int .u8 x.2.2), .cell true 4 (.bool false), .dfd, .loop .ready none 14 ([.any, .any, .any, (.ptr 0 []), (.ptr 1 []), (.ptr 2 []), (.ptr 3 [])] ++ List.replicate 15 .any) [9] (subc [1, 0, 1, 0, 0] (bodyOf Tryd.f14)) (subc [1, 0, 1, 0, 1] (bodyOf Tryd.f14)) 4] }
noncomputable def stop14 : FuncId → Nat → Nat → Option Cut
  | 28, 0, 6 => some { tmps := [0, 10, 11], loops := [(5, [3, 4, 5, 6])], dead := [] }
  | 28, 4, 6 => some { tmps := [0, 10, 11, 14, 15, 16], loops := [(5, [3, 4, 5, 6])], dead := [] }
  | _, _, _ => none
noncomputable def fn14 (x : (Int × (Int × Int))) : Bool := endVal (TC.dflt .bool) (step14 x) (tree14 x)
def pre14 (x : (Int × (Int × Int))) : Prop := ∃ r, Ends (step14 x) r (tree14 x)
noncomputable def spec14 : Spec := { dom := (.st (.int .u8) (.st (.int .u8) (.st1 (.int .u8)))), cod := .bool, n := 1, pre := pre14, f := fn14 }
theorem run14 (W : Cfg) (Q : Bool → Prop) (x : (Int × (Int × Int))) : run (env tab11 (fun _ _ => none)) stop14 (finS spec14 Q) W 100000 (startFr 14 Tryd.f14 (bodyOf Tryd.f14) (argsOf (.st (.int .u8) (.st (.int .u8) (.st1 (.int .u8)))) x)) [] [] = (tree14 x).wp (kont W Q (head14 x)) := by kernel_rfl
theorem run14h0 (W : Cfg) (Q : Bool → Prop) (x : (Int × (Int × Int))) (v0 : (List (List DForm))) (v1 : Int) : run (env tab11 (fun _ _ => none)) stop14 (finS spec14 Q) W 100000 (head14 x (.h0 v0 v1)).fr.enter (head14 x (.h0 v0 v1)).stk (head14 x (.h0 v0 v1)).H = (step14 x (.h0 v0 v1)).wp (kont W Q (head14 x)) := by kernel_rfl
theorem run14h1 (W : Cfg) (Q : Bool → Prop) (x : (Int × (Int × Int))) (v0 : (List (List DForm))) (v1 : Int) (v2 : (List DForm)) (v3 : Int) (v4 : Int) : run (env tab11 (fun _ _ => none)) stop14 (finS spec14 Q) W 100000 (head14 x (.h1 v0 v1 v2 v3 v4)).fr.enter (head14 x (.h1 v0 v1 v2 v3 v4)).stk (head14 x (.h1 v0 v1 v2 v3 v4)).H = (step14 x (.h1 v0 v1 v2 v3 v4)).wp (kont W Q (head14 x)) := by kernel_rfl
theorem runs14 (W : Cfg) (Q : Bool → Prop) (x : (Int × (Int × Int))) : ∀ j : J14, run (env tab11 (fun _ _ => none)) stop14 (finS spec14 Q) W 100000 (head14 x j).fr.enter (head14 x j).stk (head14 x j).H = (step14 x j).wp (kont W Q (head14 x))
  | .h0 v0 v1 => run14h0 W Q x v0 v1
  | .h1 v0 v1 v2 v3 v4 => run14h1 W Q x v0 v1 v2 v3 v4
theorem ok14 : SpecOk env0 14 spec14 := SpecOk.env rfl (fun _ _ h => h) (spec_of_trees (E := (env tab11 (fun _ _ => none))) (sp := spec14) (valid _ _) (fun f sp h => SpecOk.env rfl (fun _ _ h => h) (tab11_ok f sp h)) (fn := Tryd.f14) (c := (bodyOf Tryd.f14)) (by kernel_rfl) (by kernel_rfl) tree14 step14 head14 run14 runs14 (fun _ h => endVal_ends h))

noncomputable def tab14 : FuncId → Option Spec
  | 14 => some spec14
  | f => tab11 f
theorem tab14_ok : ∀ f sp, tab14 f = some sp → SpecOk env0 f sp := by
  intro f sp h
  unfold tab14 at h
  split at h
  · cases h; exact ok14
  · exact tab11_ok f sp h

/-! ### sundial/sundialref07.Digits -/
inductive J15 where
  | h0 (v3 : (List DForm)) (v4 : Int)
noncomputable def tree15 (_x : (Int × (Int × Int))) : Tr (J15 ⊕ Bool) :=
  .need (pre9 ()) <|
  .ret (.inl (.h0 (fn9 ()) 0))
noncomputable def step15 (x : (Int × (Int × Int))) : J15 → Tr (J15 ⊕ Bool)
  | .h0 v3 v4 =>
    .ite (ilt v4 (v3.length : Int)) (
      .need ((0 : Int) ≤ v4) <|
      .need (v4 < (v3.length : Int)) <|
      let y0 : DForm := (rdc CForm v3 (v4).toNat)
      .ite ((ieq y0.1 x.1) == true) (
        .need ((0 : Int) ≤ v4) <|
        .need (v4 < (v3.length : Int)) <|
        let y1 : (Int × (Int × (Bool × (Int × (Int × (Int × (Int × (Int × (Int × (Bool × (Bool × (Bool × Bool)))))))))))) := y0.2
        .ite ((ieq y1.1 x.2.1) == true) (
          .need ((0 : Int) ≤ v4) <|
          .need (v4 < (v3.length : Int)) <|
          let y2 : (DForm × Int) := (y0, x.2.2)
          .need (pre26 y2) <|
          .ite ((fn26 y2) == true) (
            .need ((0 : Int) ≤ v4) <|
            .need (v4 < (v3.length : Int)) <|
            .ite (ine y1.2.2.2.1 (-1)) (
              .ret (.inr true)) (
              let y3 : Int := (iadd .i64 v4 1)
              .ret (.inl (.h0 v3 y3)))) (
            let y4 : Int := (iadd .i64 v4 1)
            .ret (.inl (.h0 v3 y4)))) (
          let y5 : Int := (iadd .i64 v4 1)
          .ret (.inl (.h0 v3 y5)))) (
        let y6 : Int := (iadd .i64 v4 1)
        .ret (.inl (.h0 v3 y6)))) (
      .ret (.inr false))
noncomputable def head15 (x : (Int × (Int × Int))) : J15 → Head
  | .h0 v3 v4 =>
    { fr := { id := 15, kind := .top, T := [(.int .u8 x.1), (.int .u8 x.2.1), (.int .u8 x.2.2)] ++ List.replicate 4 .any ++ [(.fsl CForm v3), (.int .i64 v4)] ++ List.replicate 39 .any, items := [.lp (subc [1, 1, 0, 1, 0, 0] (bodyOf Tryd.f15)), .blk 0, .code (subc [1, 1, 1] (bodyOf Tryd.f15))], D := [], base := 0 },
      stk := [],
      H := [] }
noncomputable def stop15 : FuncId → Nat → Nat → Option Cut
  | 15, 0, 0 => some { tmps := [0, 1, 2, 7, 8], loops := [], dead := [] }
  | _, _, _ => none
noncomputable def fn15 (x : (Int × (Int × Int))) : Bool := endVal (TC.dflt .bool) (step15 x) (tree15 x)
def pre15 (x : (Int × (Int × Int))) : Prop := ∃ r, Ends (step15 x) r (tree15 x)
noncomputable def spec15 : Spec := { dom := (.st (.int .u8) (.st (.int .u8) (.st1 (.int .u8)))), cod := .bool, n := 1, pre := pre15, f := fn15 }
theorem run15 (W : Cfg) (Q : Bool → Prop) (x : (Int × (Int × Int))) : run (env tab14 (fun _ _ => none)) stop15 (finS spec15 Q) W 100000 (startFr 15 Tryd.f15 (bodyOf Tryd.f15) (argsOf (.st (.int .u8) (.st (.int .u8) (.st1 (.int .u8)))) x)) [] [] = (tree15 x).wp (kont W Q (head15 x)) := by kernel_rfl
theorem run15h0 (W : Cfg) (Q : Bool → Prop) (x : (Int × (Int × Int))) (v3 : (List DForm)) (v4 : Int) : run (env tab14 (fun _ _ => none)) stop15 (finS spec15 Q) W 100000 (head15 x (.h0 v3 v4)).fr.enter (head15 x (.h0 v3 v4)).stk (head15 x (.h0 v3 v4)).H = (step15 x (.h0 v3 v4)).wp (kont W Q (head15 x)) := by kernel_rfl
theorem runs15 (W : Cfg) (Q : Bool → Prop) (x : (Int × (Int × Int))) : ∀ j : J15, run (env tab14 (fun _ _ => none)) stop15 (finS spec15 Q) W 100000 (head15 x j).fr.enter (head15 x j).stk (head15 x j).H = (step15 x j).wp (kont W Q (head15 x))
  | .h0 v3 v4 => run15h0 W Q x v3 v4
theorem ok15 : SpecOk env0 15 spec15 := SpecOk.env rfl (fun _ _ h => h) (spec_of_trees (E := (env tab14 (fun _ _ => none))) (sp := spec15) (valid _ _) (fun f sp h => SpecOk.env rfl (fun _ _ h => h) (tab14_ok f sp h)) (fn := Tryd.f15) (c := (bodyOf Tryd.f15)) (by kernel_rfl) (by kernel_rfl) tree15 step15 head15 run15 runs15 (fun _ h => endVal_ends h))

noncomputable def tab15 : FuncId → Option Spec
  | 15 => some spec15
  | f => tab14 f
theorem tab15_ok : ∀ f sp, tab15 f = some sp → SpecOk env0 f sp := by
  intro f sp h
  unfold tab15 at h
  split at h
  · cases h; exact ok15
  · exact tab14_ok f sp h

/-! ### sundial/codes.Bytes -/
noncomputable def tree16 (x : DForm) : Tr (List Int) :=
  .need ((0 : Nat) < 1) <|
  .need ((0 : Nat) < 2) <|
  .need ((1 : Nat) < 2) <|
  .need ((0 : Nat) < 2) <|
  .need ((1 : Nat) < 2) <|
  let y0 : Int := x.2.1
  .ite (ile 4 (iconv .i64 y0)) (
    .need ((0 : Nat) < 1) <|
    .need ((1 : Nat) ≤ 1) <|
    let y1 : Int := x.2.2.1
    let y2 : (List Int) := [y1]
    .ret y2) (
    .need ((0 : Int) ≤ y0) <|
    .need ((y0 : Int) < 4) <|
    .ite (ieq y0 0) (
      .need ((0 : Int) ≤ 0) <|
      .need ((0 : Int) < 4) <|
      .need ((0 : Nat) < 1) <|
      .need (((0 : Nat) + 1 : Nat) ≤ 1) <|
      .need ((0 + 0 : Nat) ≤ 0) <|
      .need (((1 : Nat) * 1 : Nat) ≤ 2 ^ 40) <|
      .need ((1 : Nat) ≤ 2 ^ 40) <|
      .need ((1 : Nat) ≤ 1) <|
      let y3 : Int := x.2.2.1
      let y4 : (List Int) := [y3]
      .ret y4) (
      .ite (ieq y0 1) (
        .need ((0 : Int) ≤ 1) <|
        .need ((1 : Int) < 4) <|
        .need ((0 : Nat) < 1) <|
        .need (((0 : Nat) + 1 : Nat) ≤ 1) <|
        .need ((0 + 1 : Nat) ≤ 1) <|
        .need (((2 : Nat) * 1 : Nat) ≤ 2 ^ 40) <|
        .need ((2 : Nat) ≤ 2 ^ 40) <|
        .need ((2 : Nat) ≤ 2) <|
        let y5 : Int := x.2.2.1
        .ret [15, y5]) (
        .ite (ieq y0 2) (
          .need ((0 : Int) ≤ 2) <|
          .need ((2 : Int) < 4) <|
          .need ((0 : Nat) < 1) <|
          .need (((0 : Nat) + 1 : Nat) ≤ 1) <|
          .need ((0 + 2 : Nat) ≤ 2) <|
          .need (((3 : Nat) * 1 : Nat) ≤ 2 ^ 40) <|
          .need ((3 : Nat) ≤ 2 ^ 40) <|
          .need ((3 : Nat) ≤ 3) <|
          let y6 : Int := x.2.2.1
          .ret [15, 56, y6]) (
          .need ((0 : Int) ≤ 3) <|
          .need ((3 : Int) < 4) <|
          .need ((0 : Nat) < 1) <|
          .need (((0 : Nat) + 1 : Nat) ≤ 1) <|
          .need ((0 + 2 : Nat) ≤ 2) <|
          .need (((3 : Nat) * 1 : Nat) ≤ 2 ^ 40) <|
          .need ((3 : Nat) ≤ 2 ^ 40) <|
          .need ((3 : Nat) ≤ 3) <|
          let y7 : Int := x.2.2.1
          .ret [15, 58, y7]))))
noncomputable def fn16 (x : DForm) : (List Int) := (tree16 x).val
def pre16 (x : DForm) : Prop := (tree16 x).ok
noncomputable def spec16 : Spec := { dom := (.st1 CForm), cod := (.slice (.int .u8)), n := 1, pre := pre16, f := fn16, own := some 5 }
theorem run16 (W : Cfg) (Q : (List Int) → Prop) (x : DForm) : run (env tab15 (fun _ _ => none)) (fun _ _ _ => none) (finS spec16 Q) W 100000 (startFr 16 Tryd.f16 (bodyOf Tryd.f16) (argsOf (.st1 CForm) x)) [] [] = (tree16 x).wp Q := by kernel_rfl
theorem ok16 : SpecOk env0 16 spec16 := SpecOk.env rfl (fun _ _ h => h) (spec_of_tree (E := (env tab15 (fun _ _ => none))) (sp := spec16) (valid _ _) (fun f sp h => SpecOk.env rfl (fun _ _ h => h) (tab15_ok f sp h)) (fn := Tryd.f16) (c := (bodyOf Tryd.f16)) (by kernel_rfl) (by kernel_rfl) tree16 run16 (fun _ h => Tr.gives_val h))

noncomputable def tab16 : FuncId → Option Spec
  | 16 => some spec16
  | f => tab15 f
theorem tab16_ok : ∀ f sp, tab16 f = some sp → SpecOk env0 f sp := by
  intro f sp h
  unfold tab16 at h
  split at h
  · cases h; exact ok16
  · exact tab15_ok f sp h

/-! ### sundial/sundialref07.Bytes -/
noncomputable def tree17 (x : DForm) : Tr (List Int) :=
  let y0 : Int := x.2.1
  .ite (ieq y0 1) (
    .need ((0 : Nat) < 2) <|
    .need ((1 : Nat) < 2) <|
    .need (((0 : Nat) + 2 : Nat) ≤ 2) <|
    let y1 : Int := x.2.2.1
    .ret [15, y1]) (
    .ite (ieq y0 2) (
      .need ((0 : Nat) < 3) <|
      .need ((1 : Nat) < 3) <|
      .need ((2 : Nat) < 3) <|
      .need (((0 : Nat) + 3 : Nat) ≤ 3) <|
      let y2 : Int := x.2.2.1
      .ret [15, 56, y2]) (
      .ite (ieq y0 3) (
        .need ((0 : Nat) < 3) <|
        .need ((1 : Nat) < 3) <|
        .need ((2 : Nat) < 3) <|
        .need (((0 : Nat) + 3 : Nat) ≤ 3) <|
        let y3 : Int := x.2.2.1
        .ret [15, 58, y3]) (
        .need ((0 : Nat) < 1) <|
        .need (((0 : Nat) + 1 : Nat) ≤ 1) <|
        let y4 : Int := x.2.2.1
        .ret [y4])))
noncomputable def fn17 (x : DForm) : (List Int) := (tree17 x).val
def pre17 (x : DForm) : Prop := (tree17 x).ok
noncomputable def spec17 : Spec := { dom := (.st1 CForm), cod := (.slice (.int .u8)), n := 1, pre := pre17, f := fn17 }
theorem run17 (W : Cfg) (Q : (List Int) → Prop) (x : DForm) : run (env tab16 (fun _ _ => none)) (fun _ _ _ => none) (finS spec17 Q) W 100000 (startFr 17 Tryd.f17 (bodyOf Tryd.f17) (argsOf (.st1 CForm) x)) [] [] = (tree17 x).wp Q := by kernel_rfl
theorem ok17 : SpecOk env0 17 spec17 := SpecOk.env rfl (fun _ _ h => h) (spec_of_tree (E := (env tab16 (fun _ _ => none))) (sp := spec17) (valid _ _) (fun f sp h => SpecOk.env rfl (fun _ _ h => h) (tab16_ok f sp h)) (fn := Tryd.f17) (c := (bodyOf Tryd.f17)) (by kernel_rfl) (by kernel_rfl) tree17 run17 (fun _ h => Tr.gives_val h))

noncomputable def tab17 : FuncId → Option Spec
  | 17 => some spec17
  | f => tab16 f
theorem tab17_ok : ∀ f sp, tab17 f = some sp → SpecOk env0 f sp := by
  intro f sp h
  unfold tab17 at h
  split at h
  · cases h; exact ok17
  · exact tab16_ok f sp h

/-! ### sundial/sundiallaw07.wakes -/
noncomputable def tree18 (_x : Unit) : Tr Bool :=
  let y0 : (Int × (Int × (Int × Int))) := (0, (0, (195, 0)))
  .need (pre10 y0) <|
  let y1 : (Int × (Int × (Int × Int))) := (0, (0, (196, 0)))
  .need (pre10 y1) <|
  let y2 : (Int × (Int × (Int × Int))) := (0, (0, (131, 5)))
  .need (pre10 y2) <|
  let y3 : (DForm × Bool) := (fn10 y0)
  .ite (y3.2 == true) (
    let y4 : DForm := y3.1
    .ite ((ieq y4.2.2.2.2.2.1 27) == true) (
      .ite ((!(fn10 y1).2) == true) (
        let y5 : (DForm × Bool) := (fn10 y2)
        .ite (y5.2 == true) (
          let y6 : (Int × (Int × (Int × (Int × (Int × (Bool × (Bool × (Bool × Bool)))))))) := y5.1.2.2.2.2.2
          .ite ((ieq y6.1 8) == true) (
            .ite ((ieq y6.2.2.2.2.1 1) == true) (
              let y7 : (Int × (Int × Int)) := (0, (0, 131))
              .need (pre14 y7) <|
              .ite ((fn14 y7) == true) (
                let y8 : (Int × (Int × Int)) := (0, (0, 137))
                .need (pre14 y8) <|
                .ite ((!(fn14 y8)) == true) (
                  .need (pre8 ()) <|
                  .need (pre9 ()) <|
                  .ite ((ieq ((fn8 ()).length : Int) ((fn9 ()).length : Int)) == true) (
                    .need (pre16 y4) <|
                    .ret (ieq ((fn16 y4).length : Int) 1)) (
                    .ret false)) (
                  .ret false)) (
                .ret false)) (
              .ret false)) (
            .ret false)) (
          .ret false)) (
        .ret false)) (
      .ret false)) (
    .ret false)
noncomputable def fn18 (x : Unit) : Bool := (tree18 x).val
def pre18 (x : Unit) : Prop := (tree18 x).ok
noncomputable def spec18 : Spec := { dom := .unit, cod := .bool, n := 1, pre := pre18, f := fn18 }
theorem run18 (W : Cfg) (Q : Bool → Prop) (x : Unit) : run (env tab17 (fun _ _ => none)) (fun _ _ _ => none) (finS spec18 Q) W 100000 (startFr 18 Tryd.f18 (bodyOf Tryd.f18) (argsOf .unit x)) [] [] = (tree18 x).wp Q := by kernel_rfl
theorem ok18 : SpecOk env0 18 spec18 := SpecOk.env rfl (fun _ _ h => h) (spec_of_tree (E := (env tab17 (fun _ _ => none))) (sp := spec18) (valid _ _) (fun f sp h => SpecOk.env rfl (fun _ _ h => h) (tab17_ok f sp h)) (fn := Tryd.f18) (c := (bodyOf Tryd.f18)) (by kernel_rfl) (by kernel_rfl) tree18 run18 (fun _ h => Tr.gives_val h))

noncomputable def tab18 : FuncId → Option Spec
  | 18 => some spec18
  | f => tab17 f
theorem tab18_ok : ∀ f sp, tab18 f = some sp → SpecOk env0 f sp := by
  intro f sp h
  unfold tab18 at h
  split at h
  · cases h; exact ok18
  · exact tab17_ok f sp h

/-! ### sundial/sundiallaw07.CodesTells -/
inductive J3 where
  | h0 (v5 : Nat) (v6 : (List DForm)) (v7 : Int) (v22 : Nat) (v23 : (List DForm))
noncomputable def tree3 (_x : (DForm × (Int × (Int × (Int × Int))))) : Tr (J3 ⊕ Bool) :=
  .need (pre8 ()) <|
  .need (pre9 ()) <|
  let y0 : Nat := (fn8 ()).length
  .ite (ine (y0 : Int) ((fn9 ()).length : Int)) (
    .ret (.inr false)) (
    .ret (.inl (.h0 y0 (fn9 ()) 0 y0 (fn8 ()))))
noncomputable def step3 (x : (DForm × (Int × (Int × (Int × Int))))) : J3 → Tr (J3 ⊕ Bool)
  | .h0 v5 v6 v7 v22 v23 =>
    .ite (ilt v7 (v6.length : Int)) (
      .need ((0 : Int) ≤ v7) <|
      .need (v7 < (v5 : Int)) <|
      let y0 : Nat := (0 + (v7).toNat)
      .need ((y0 : Nat) < v22) <|
      .need ((0 : Int) ≤ v7) <|
      .need (v7 < (v6.length : Int)) <|
      .ite (!(eqD CForm (rdc CForm v23 y0) (rdc CForm v6 (v7).toNat))) (
        .ret (.inr false)) (
        .ret (.inl (.h0 v5 v6 (iadd .i64 v7 1) v22 v23)))) (
      .need (pre10 x.2) <|
      .need (pre11 x.2) <|
      let y1 : (DForm × Bool) := (fn10 x.2)
      let y2 : (DForm × Bool) := (fn11 x.2)
      .ite ((eqD CForm y1.1 y2.1) == true) (
        .ite ((y1.2 == y2.2) == true) (
          .need (pre12 x) <|
          .need (pre13 x) <|
          .ite (((fn12 x) == (fn13 x)) == true) (
            let y3 : (Int × (Int × Int)) := x.2.2
            let y4 : (Int × (Int × Int)) := (x.2.1, (y3.1, y3.2.1))
            .need (pre14 y4) <|
            .need (pre15 y4) <|
            .ite (((fn14 y4) == (fn15 y4)) == true) (
              .need (pre16 x.1) <|
              .need (pre17 x.1) <|
              .ite (((strOfNums (fn16 x.1)) == (strOfNums (fn17 x.1))) == true) (
                .need (pre18 ()) <|
                .ret (.inr (fn18 ()))) (
                .ret (.inr false))) (
              .ret (.inr false))) (
            .ret (.inr false))) (
          .ret (.inr false))) (
        .ret (.inr false)))
noncomputable def head3 (x : (DForm × (Int × (Int × (Int × Int))))) : J3 → Head
  | .h0 v5 v6 v7 v22 v23 =>
    { fr := { id := 3, kind := .top, T := [.any, (.int .u8 x.2.1), (.int .u8 x.2.2.1), (.int .u8 x.2.2.2.1), (.int .i64 x.2.2.2.2), (.ptr 0 [])] ++ List.replicate 5 .any ++ [(.osl 1 [] 14 0 v5 none), (.fsl CForm v6), (.int .i64 v7)] ++ List.replicate 88 .any, items := [.lp (subc [1, 1, 1, 0, 1, 0, 0] (bodyOf Tryd.f3)), .blk 0, .code (subc [1, 1, 1, 1] (bodyOf Tryd.f3))], D := [], base := 0 },
      stk := [],
      H := [.cell true 23 (.agg [1, 1, 1, 1, 1, 1, 1, 1, 1, 1, 1, 1, 1, 1] [(.int .u8 x.1.1), (.int .u8 x.1.2.1), (.int .u8 x.1.2.2.1), (.bool x.1.2.2.2.1), (.int .i64 x.1.2.2.2.2.1), (.int .u8 x.1.2.2.2.2.2.1), (.int .u8 x.1.2.2.2.2.2.2.1), (.int .i64 x.1.2.2.2.2.2.2.2.1), (.int .u8 x.1.2.2.2.2.2.2.2.2.1), (.int .i64 x.1.2.2.2.2.2.2.2.2.2.1), (.bool x.1.2.2.2.2.2.2.2.2.2.2.1), (.bool x.1.2.2.2.2.2.2.2.2.2.2.2.1), (.bool x.1.2.2.2.2.2.2.2.2.2.2.2.2.1), (.bool x.1.2.2.2.2.2.2.2.2.2.2.2.2.2)]), .cell true 23 (.arr v22 CForm v23)] }
noncomputable def stop3 : FuncId → Nat → Nat → Option Cut
  | 3, 0, 0 => some { tmps := [1, 2, 3, 4, 5, 11, 12, 13], loops := [], dead := [] }
  | _, _, _ => none
noncomputable def fn3 (x : (DForm × (Int × (Int × (Int × Int))))) : Bool := endVal (TC.dflt .bool) (step3 x) (tree3 x)
def pre3 (x : (DForm × (Int × (Int × (Int × Int))))) : Prop := ∃ r, Ends (step3 x) r (tree3 x)
noncomputable def spec3 : Spec := { dom := (.st CForm (.st (.int .u8) (.st (.int .u8) (.st (.int .u8) (.st1 (.int .i64)))))), cod := .bool, n := 1, pre := pre3, f := fn3 }
theorem run3 (W : Cfg) (Q : Bool → Prop) (x : (DForm × (Int × (Int × (Int × Int))))) : run (env tab18 (fun _ _ => none)) stop3 (finS spec3 Q) W 100000 (startFr 3 Tryd.f3 (bodyOf Tryd.f3) (argsOf (.st CForm (.st (.int .u8) (.st (.int .u8) (.st (.int .u8) (.st1 (.int .i64)))))) x)) [] [] = (tree3 x).wp (kont W Q (head3 x)) := by kernel_rfl
theorem run3h0 (W : Cfg) (Q : Bool → Prop) (x : (DForm × (Int × (Int × (Int × Int))))) (v5 : Nat) (v6 : (List DForm)) (v7 : Int) (v22 : Nat) (v23 : (List DForm)) : run (env tab18 (fun _ _ => none)) stop3 (finS spec3 Q) W 100000 (head3 x (.h0 v5 v6 v7 v22 v23)).fr.enter (head3 x (.h0 v5 v6 v7 v22 v23)).stk (head3 x (.h0 v5 v6 v7 v22 v23)).H = (step3 x (.h0 v5 v6 v7 v22 v23)).wp (kont W Q (head3 x)) := by kernel_rfl
theorem runs3 (W : Cfg) (Q : Bool → Prop) (x : (DForm × (Int × (Int × (Int × Int))))) : ∀ j : J3, run (env tab18 (fun _ _ => none)) stop3 (finS spec3 Q) W 100000 (head3 x j).fr.enter (head3 x j).stk (head3 x j).H = (step3 x j).wp (kont W Q (head3 x))
  | .h0 v5 v6 v7 v22 v23 => run3h0 W Q x v5 v6 v7 v22 v23
theorem ok3 : SpecOk env0 3 spec3 := SpecOk.env rfl (fun _ _ h => h) (spec_of_trees (E := (env tab18 (fun _ _ => none))) (sp := spec3) (valid _ _) (fun f sp h => SpecOk.env rfl (fun _ _ h => h) (tab18_ok f sp h)) (fn := Tryd.f3) (c := (bodyOf Tryd.f3)) (by kernel_rfl) (by kernel_rfl) tree3 step3 head3 run3 runs3 (fun _ h => endVal_ends h))

noncomputable def tab3 : FuncId → Option Spec
  | 3 => some spec3
  | f => tab18 f
theorem tab3_ok : ∀ f sp, tab3 f = some sp → SpecOk env0 f sp := by
  intro f sp h
  unfold tab3 at h
  split at h
  · cases h; exact ok3
  · exact tab18_ok f sp h

/-! ### sundial/sundiallaw07.CodesOne -/
inductive J4 where
  | h0 (v3 : Int) (v4 : Int) (v6 : Nat) (v7 : Int) (v8 : DForm) (v22 : Nat) (v23 : (List DForm))
noncomputable def tree4 (x : (Int × (Int × (Int × Int)))) : Tr (J4 ⊕ Bool) :=
  .need ((8 : Int) ≠ 0) <|
  .need ((8 : Int) ≠ 0) <|
  .need (pre8 ()) <|
  let y0 : Nat := (fn8 ()).length
  .ret (.inl (.h0 (irem .i64 (iadd .i64 (irem .i64 x.2.2.2 8) 8) 8) 0 y0 0 (0, (0, (0, (false, (0, (0, (0, (0, (0, (0, (false, (false, (false, false))))))))))))) y0 (fn8 ())))
noncomputable def step4 (x : (Int × (Int × (Int × Int)))) : J4 → Tr (J4 ⊕ Bool)
  | .h0 v3 v4 v6 v7 v8 v22 v23 =>
    .ite (ilt v7 (v6 : Int)) (
      .need ((0 : Int) ≤ v7) <|
      .need (v7 < (v6 : Int)) <|
      let y0 : Nat := (0 + (v7).toNat)
      .need ((y0 : Nat) < v22) <|
      let y1 : DForm := (rdc CForm v23 y0)
      let y2 : (Int × (Int × (Int × Int))) := (x.1, (x.2.1, (x.2.2.1, v3)))
      let y3 : (DForm × (Int × (Int × (Int × Int)))) := (y1, y2)
      .need (pre12 y3) <|
      .ite (fn12 y3) (
        .need ((0 : Int) ≤ v7) <|
        .need (v7 < (v6 : Int)) <|
        .need ((y0 : Nat) < v22) <|
        let y4 : Int := (iadd .i64 v7 1)
        .ret (.inl (.h0 v3 (iadd .i64 v4 1) v6 y4 y1 v22 v23))) (
        let y5 : Int := (iadd .i64 v7 1)
        .ret (.inl (.h0 v3 v4 v6 y5 v8 v22 v23)))) (
      let y6 : (Int × (Int × (Int × Int))) := (x.1, (x.2.1, (x.2.2.1, v3)))
      .need (pre10 y6) <|
      .ite ((ile v4 1) == true) (
        let y7 : (DForm × Bool) := (fn10 y6)
        .ite ((y7.2 == (ieq v4 1)) == true) (
          .ite ((eqD CForm y7.1 v8) == true) (
            .need (pre18 ()) <|
            .ret (.inr (fn18 ()))) (
            .ret (.inr false))) (
          .ret (.inr false))) (
        .ret (.inr false)))
noncomputable def head4 (x : (Int × (Int × (Int × Int)))) : J4 → Head
  | .h0 v3 v4 v6 v7 v8 v22 v23 =>
    { fr := { id := 4, kind := .top, T := [(.int .u8 x.1), (.int .u8 x.2.1), (.int .u8 x.2.2.1), (.int .i64 v3)] ++ List.replicate 5 .any ++ [(.int .i64 v4), (.ptr 0 []), (.osl 1 [] 14 0 v6 none), (.int .i64 v7)] ++ List.replicate 52 .any, items := [.lp (subc [1, 1, 1, 1, 1, 0, 1, 0, 0] (bodyOf Tryd.f4)), .blk 0, .code (subc [1, 1, 1, 1, 1, 1] (bodyOf Tryd.f4))], D := [], base := 0 },
      stk := [],
      H := [.cell true 23 (.agg [1, 1, 1, 1, 1, 1, 1, 1, 1, 1, 1, 1, 1, 1] [(.int .u8 v8.1), (.int .u8 v8.2.1), (.int .u8 v8.2.2.1), (.bool v8.2.2.2.1), (.int .i64 v8.2.2.2.2.1), (.int .u8 v8.2.2.2.2.2.1), (.int .u8 v8.2.2.2.2.2.2.1), (.int .i64 v8.2.2.2.2.2.2.2.1), (.int .u8 v8.2.2.2.2.2.2.2.2.1), (.int .i64 v8.2.2.2.2.2.2.2.2.2.1), (.bool v8.2.2.2.2.2.2.2.2.2.2.1), (.bool v8.2.2.2.2.2.2.2.2.2.2.2.1), (.bool v8.2.2.2.2.2.2.2.2.2.2.2.2.1), (.bool v8.2.2.2.2.2.2.2.2.2.2.2.2.2)]), .cell true 23 (.arr v22 CForm v23)] }
noncomputable def stop4 : FuncId → Nat → Nat → Option Cut
  | 4, 0, 0 => some { tmps := [0, 1, 2, 3, 9, 10, 11, 12], loops := [], dead := [] }
  | _, _, _ => none
noncomputable def fn4 (x : (Int × (Int × (Int × Int)))) : Bool := endVal (TC.dflt .bool) (step4 x) (tree4 x)
def pre4 (x : (Int × (Int × (Int × Int)))) : Prop := ∃ r, Ends (step4 x) r (tree4 x)
noncomputable def spec4 : Spec := { dom := (.st (.int .u8) (.st (.int .u8) (.st (.int .u8) (.st1 (.int .i64))))), cod := .bool, n := 1, pre := pre4, f := fn4 }
theorem run4 (W : Cfg) (Q : Bool → Prop) (x : (Int × (Int × (Int × Int)))) : run (env tab3 (fun _ _ => none)) stop4 (finS spec4 Q) W 100000 (startFr 4 Tryd.f4 (bodyOf Tryd.f4) (argsOf (.st (.int .u8) (.st (.int .u8) (.st (.int .u8) (.st1 (.int .i64))))) x)) [] [] = (tree4 x).wp (kont W Q (head4 x)) := by kernel_rfl
theorem run4h0 (W : Cfg) (Q : Bool → Prop) (x : (Int × (Int × (Int × Int)))) (v3 : Int) (v4 : Int) (v6 : Nat) (v7 : Int) (v8 : DForm) (v22 : Nat) (v23 : (List DForm)) : run (env tab3 (fun _ _ => none)) stop4 (finS spec4 Q) W 100000 (head4 x (.h0 v3 v4 v6 v7 v8 v22 v23)).fr.enter (head4 x (.h0 v3 v4 v6 v7 v8 v22 v23)).stk (head4 x (.h0 v3 v4 v6 v7 v8 v22 v23)).H = (step4 x (.h0 v3 v4 v6 v7 v8 v22 v23)).wp (kont W Q (head4 x)) := by kernel_rfl
theorem runs4 (W : Cfg) (Q : Bool → Prop) (x : (Int × (Int × (Int × Int)))) : ∀ j : J4, run (env tab3 (fun _ _ => none)) stop4 (finS spec4 Q) W 100000 (head4 x j).fr.enter (head4 x j).stk (head4 x j).H = (step4 x j).wp (kont W Q (head4 x))
  | .h0 v3 v4 v6 v7 v8 v22 v23 => run4h0 W Q x v3 v4 v6 v7 v8 v22 v23
theorem ok4 : SpecOk env0 4 spec4 := SpecOk.env rfl (fun _ _ h => h) (spec_of_trees (E := (env tab3 (fun _ _ => none))) (sp := spec4) (valid _ _) (fun f sp h => SpecOk.env rfl (fun _ _ h => h) (tab3_ok f sp h)) (fn := Tryd.f4) (c := (bodyOf Tryd.f4)) (by kernel_rfl) (by kernel_rfl) tree4 step4 head4 run4 runs4 (fun _ h => endVal_ends h))

noncomputable def tab4 : FuncId → Option Spec
  | 4 => some spec4
  | f => tab3 f
theorem tab4_ok : ∀ f sp, tab4 f = some sp → SpecOk env0 f sp := by
  intro f sp h
  unfold tab4 at h
  split at h
  · cases h; exact ok4
  · exact tab3_ok f sp h

/-! ### sundial/sundiallaw07.CodesEach -/
inductive J5 where
  | h0 (v0 : Int) (v1 : Int) (v3 : Nat) (v4 : Int) (v5 : (List Bool)) (v6 : Nat) (v7 : (List DForm))
  | h1 (v0 : Int) (v1 : (List Bool))
noncomputable def tree5 (x : (Int × Int)) : Tr (J5 ⊕ Bool) :=
  .need ((8 : Int) ≠ 0) <|
  .need ((8 : Int) ≠ 0) <|
  .need ((8 : Int) ≠ 0) <|
  .need ((8 : Int) ≠ 0) <|
  .need (pre8 ()) <|
  let y0 : Nat := (fn8 ()).length
  .ret (.inl (.h0 (irem .i64 (iadd .i64 (irem .i64 x.1 8) 8) 8) (irem .i64 (iadd .i64 (irem .i64 x.2 8) 8) 8) y0 0 (List.replicate 40 false) y0 (fn8 ())))
noncomputable def step5 (_x : (Int × Int)) : J5 → Tr (J5 ⊕ Bool)
  | .h0 v0 v1 v3 v4 v5 v6 v7 =>
    .ite (ilt v4 (v3 : Int)) (
      .need ((0 : Int) ≤ v4) <|
      .need (v4 < (v3 : Int)) <|
      let y0 : Nat := (0 + (v4).toNat)
      .need ((y0 : Nat) < v6) <|
      .need ((0 : Int) ≤ v4) <|
      .need (v4 < (v3 : Int)) <|
      .need ((y0 : Nat) < v6) <|
      let y1 : DForm := (rdc CForm v7 y0)
      let y2 : (Int × (Int × (Bool × (Int × (Int × (Int × (Int × (Int × (Int × (Bool × (Bool × (Bool × Bool)))))))))))) := y1.2
      let y3 : (Int × (Bool × (Int × (Int × (Int × (Int × (Int × (Int × (Bool × (Bool × (Bool × Bool))))))))))) := y2.2
      let y4 : (Bool × (Int × (Int × (Int × (Int × (Int × (Int × (Bool × (Bool × (Bool × Bool)))))))))) := y3.2
      .ite y4.1 (
        .need ((0 : Int) ≤ v4) <|
        .need (v4 < (v3 : Int)) <|
        .need ((y0 : Nat) < v6) <|
        let y5 : (Int × (Int × (Int × (Int × (Int × (Int × (Bool × (Bool × (Bool × Bool))))))))) := y4.2
        let y6 : Int := y5.1
        let y7 : Bool := (ine y6 (-1))
        .ite y7 (
          .need ((0 : Int) ≤ v4) <|
          .need (v4 < (v3 : Int)) <|
          .need ((y0 : Nat) < v6) <|
          .need ((0 : Int) ≤ v4) <|
          .need (v4 < (v3 : Int)) <|
          .need ((y0 : Nat) < v6) <|
          .need ((0 : Int) ≤ v4) <|
          .need (v4 < (v3 : Int)) <|
          .need ((y0 : Nat) < v6) <|
          let y8 : Int := y1.1
          let y9 : Int := y2.1
          let y10 : Int := y3.1
          let y11 : Int := (iadd .u8 y10 (iconv .u8 v0))
          let y12 : (Int × (Int × (Int × Int))) := (y8, (y9, (y11, y6)))
          .need (pre10 y12) <|
          let y13 : (DForm × Bool) := (fn10 y12)
          .ite ((!y13.2) == false) (
            .need ((0 : Int) ≤ v4) <|
            .need (v4 < (v3 : Int)) <|
            .need ((y0 : Nat) < v6) <|
            .ite ((!(eqD CForm y13.1 y1)) == false) (
              .need ((0 : Int) ≤ v4) <|
              .need (v4 < (v3 : Int)) <|
              .need ((y0 : Nat) < v6) <|
              let y14 : Int := y5.2.1
              let y15 : Bool := ((ile 40 y14) == false)
              .ite y15 (
                .need ((0 : Int) ≤ v4) <|
                .need (v4 < (v3 : Int)) <|
                .need ((y0 : Nat) < v6) <|
                .need ((0 : Int) ≤ v4) <|
                .need (v4 < (v3 : Int)) <|
                .need ((y0 : Nat) < v6) <|
                let y16 : (Int × (Int × Int)) := (y8, (y9, y11))
                .need (pre14 y16) <|
                .need ((0 : Int) ≤ v4) <|
                .need (v4 < (v3 : Int)) <|
                .need ((y0 : Nat) < v6) <|
                let y17 : Bool := (!((fn14 y16) == y7))
                .ite y17 (
                  .ret (.inr false)) (
                  .need ((0 : Int) ≤ v4) <|
                  .need (v4 < (v3 : Int)) <|
                  .need ((y0 : Nat) < v6) <|
                  .need ((0 : Int) ≤ y14) <|
                  .need ((y14 : Int) < 40) <|
                  let y18 : Nat := (y14).toNat
                  .need ((y18 : Nat) < 40) <|
                  let y19 : Int := (iadd .i64 v4 1)
                  let y20 : (List Bool) := (v5.set y18 true)
                  .ret (.inl (.h0 v0 v1 v3 y19 y20 v6 v7)))) (
                .ret (.inr false))) (
              .ret (.inr false))) (
            .ret (.inr false))) (
          .need ((0 : Int) ≤ v4) <|
          .need (v4 < (v3 : Int)) <|
          .need ((y0 : Nat) < v6) <|
          .need ((0 : Int) ≤ v4) <|
          .need (v4 < (v3 : Int)) <|
          .need ((y0 : Nat) < v6) <|
          let y21 : Int := y1.1
          let y22 : Int := y2.1
          let y23 : Int := y3.1
          let y24 : Int := (iadd .u8 y23 (iconv .u8 v0))
          let y25 : (Int × (Int × (Int × Int))) := (y21, (y22, (y24, v1)))
          .need (pre10 y25) <|
          let y26 : (DForm × Bool) := (fn10 y25)
          .ite ((!y26.2) == false) (
            .need ((0 : Int) ≤ v4) <|
            .need (v4 < (v3 : Int)) <|
            .need ((y0 : Nat) < v6) <|
            .ite ((!(eqD CForm y26.1 y1)) == false) (
              .need ((0 : Int) ≤ v4) <|
              .need (v4 < (v3 : Int)) <|
              .need ((y0 : Nat) < v6) <|
              let y27 : Int := y5.2.1
              let y28 : Bool := ((ile 40 y27) == false)
              .ite y28 (
                .need ((0 : Int) ≤ v4) <|
                .need (v4 < (v3 : Int)) <|
                .need ((y0 : Nat) < v6) <|
                .need ((0 : Int) ≤ v4) <|
                .need (v4 < (v3 : Int)) <|
                .need ((y0 : Nat) < v6) <|
                let y29 : (Int × (Int × Int)) := (y21, (y22, y24))
                .need (pre14 y29) <|
                .need ((0 : Int) ≤ v4) <|
                .need (v4 < (v3 : Int)) <|
                .need ((y0 : Nat) < v6) <|
                let y30 : Bool := (!((fn14 y29) == y7))
                .ite y30 (
                  .ret (.inr false)) (
                  .need ((0 : Int) ≤ v4) <|
                  .need (v4 < (v3 : Int)) <|
                  .need ((y0 : Nat) < v6) <|
                  .need ((0 : Int) ≤ y27) <|
                  .need ((y27 : Int) < 40) <|
                  let y31 : Nat := (y27).toNat
                  .need ((y31 : Nat) < 40) <|
                  let y32 : Int := (iadd .i64 v4 1)
                  let y33 : (List Bool) := (v5.set y31 true)
                  .ret (.inl (.h0 v0 v1 v3 y32 y33 v6 v7)))) (
                .ret (.inr false))) (
              .ret (.inr false))) (
            .ret (.inr false)))) (
        .need ((0 : Int) ≤ v4) <|
        .need (v4 < (v3 : Int)) <|
        .need ((y0 : Nat) < v6) <|
        let y34 : (Int × (Int × (Int × (Int × (Int × (Int × (Bool × (Bool × (Bool × Bool))))))))) := y4.2
        let y35 : Int := y34.1
        let y36 : Bool := (ine y35 (-1))
        .ite y36 (
          .need ((0 : Int) ≤ v4) <|
          .need (v4 < (v3 : Int)) <|
          .need ((y0 : Nat) < v6) <|
          .need ((0 : Int) ≤ v4) <|
          .need (v4 < (v3 : Int)) <|
          .need ((y0 : Nat) < v6) <|
          .need ((0 : Int) ≤ v4) <|
          .need (v4 < (v3 : Int)) <|
          .need ((y0 : Nat) < v6) <|
          let y37 : Int := y1.1
          let y38 : Int := y2.1
          let y39 : Int := y3.1
          let y40 : (Int × (Int × (Int × Int))) := (y37, (y38, (y39, y35)))
          .need (pre10 y40) <|
          let y41 : (DForm × Bool) := (fn10 y40)
          .ite ((!y41.2) == false) (
            .need ((0 : Int) ≤ v4) <|
            .need (v4 < (v3 : Int)) <|
            .need ((y0 : Nat) < v6) <|
            .ite ((!(eqD CForm y41.1 y1)) == false) (
              .need ((0 : Int) ≤ v4) <|
              .need (v4 < (v3 : Int)) <|
              .need ((y0 : Nat) < v6) <|
              let y42 : Int := y34.2.1
              let y43 : Bool := ((ile 40 y42) == false)
              .ite y43 (
                .need ((0 : Int) ≤ v4) <|
                .need (v4 < (v3 : Int)) <|
                .need ((y0 : Nat) < v6) <|
                .need ((0 : Int) ≤ v4) <|
                .need (v4 < (v3 : Int)) <|
                .need ((y0 : Nat) < v6) <|
                let y44 : (Int × (Int × Int)) := (y37, (y38, y39))
                .need (pre14 y44) <|
                .need ((0 : Int) ≤ v4) <|
                .need (v4 < (v3 : Int)) <|
                .need ((y0 : Nat) < v6) <|
                let y45 : Bool := (!((fn14 y44) == y36))
                .ite y45 (
                  .ret (.inr false)) (
                  .need ((0 : Int) ≤ v4) <|
                  .need (v4 < (v3 : Int)) <|
                  .need ((y0 : Nat) < v6) <|
                  .need ((0 : Int) ≤ y42) <|
                  .need ((y42 : Int) < 40) <|
                  let y46 : Nat := (y42).toNat
                  .need ((y46 : Nat) < 40) <|
                  let y47 : Int := (iadd .i64 v4 1)
                  let y48 : (List Bool) := (v5.set y46 true)
                  .ret (.inl (.h0 v0 v1 v3 y47 y48 v6 v7)))) (
                .ret (.inr false))) (
              .ret (.inr false))) (
            .ret (.inr false))) (
          .need ((0 : Int) ≤ v4) <|
          .need (v4 < (v3 : Int)) <|
          .need ((y0 : Nat) < v6) <|
          .need ((0 : Int) ≤ v4) <|
          .need (v4 < (v3 : Int)) <|
          .need ((y0 : Nat) < v6) <|
          let y49 : Int := y1.1
          let y50 : Int := y2.1
          let y51 : Int := y3.1
          let y52 : (Int × (Int × (Int × Int))) := (y49, (y50, (y51, v1)))
          .need (pre10 y52) <|
          let y53 : (DForm × Bool) := (fn10 y52)
          .ite ((!y53.2) == false) (
            .need ((0 : Int) ≤ v4) <|
            .need (v4 < (v3 : Int)) <|
            .need ((y0 : Nat) < v6) <|
            .ite ((!(eqD CForm y53.1 y1)) == false) (
              .need ((0 : Int) ≤ v4) <|
              .need (v4 < (v3 : Int)) <|
              .need ((y0 : Nat) < v6) <|
              let y54 : Int := y34.2.1
              let y55 : Bool := ((ile 40 y54) == false)
              .ite y55 (
                .need ((0 : Int) ≤ v4) <|
                .need (v4 < (v3 : Int)) <|
                .need ((y0 : Nat) < v6) <|
                .need ((0 : Int) ≤ v4) <|
                .need (v4 < (v3 : Int)) <|
                .need ((y0 : Nat) < v6) <|
                let y56 : (Int × (Int × Int)) := (y49, (y50, y51))
                .need (pre14 y56) <|
                .need ((0 : Int) ≤ v4) <|
                .need (v4 < (v3 : Int)) <|
                .need ((y0 : Nat) < v6) <|
                let y57 : Bool := (!((fn14 y56) == y36))
                .ite y57 (
                  .ret (.inr false)) (
                  .need ((0 : Int) ≤ v4) <|
                  .need (v4 < (v3 : Int)) <|
                  .need ((y0 : Nat) < v6) <|
                  .need ((0 : Int) ≤ y54) <|
                  .need ((y54 : Int) < 40) <|
                  let y58 : Nat := (y54).toNat
                  .need ((y58 : Nat) < 40) <|
                  let y59 : Int := (iadd .i64 v4 1)
                  let y60 : (List Bool) := (v5.set y58 true)
                  .ret (.inl (.h0 v0 v1 v3 y59 y60 v6 v7)))) (
                .ret (.inr false))) (
              .ret (.inr false))) (
            .ret (.inr false))))) (
      .ret (.inl (.h1 1 v5)))
  | .h1 v0 v1 =>
    .ite (ilt v0 40) (
      .need ((0 : Int) ≤ v0) <|
      .need ((v0 : Int) < 40) <|
      .need (((v0).toNat : Nat) < 40) <|
      .ite (!(rdc .bool v1 (v0).toNat)) (
        .ret (.inr false)) (
        .ret (.inl (.h1 (iadd .i64 v0 1) v1)))) (
      .need ((0 : Int) ≤ 0) <|
      .need ((0 : Int) < 40) <|
      .need ((0 : Nat) < 40) <|
      .ite ((!(rdc .bool v1 0)) == true) (
        .need (pre18 ()) <|
        .ret (.inr (fn18 ()))) (
        .ret (.inr false)))
noncomputable def head5 (_x : (Int × Int)) : J5 → Head
  | .h0 v0 v1 v3 v4 v5 v6 v7 =>
    { fr := { id := 5, kind := .top, T := [(.int .i64 v0), (.int .i64 v1), .any, .any, .any, (.ptr 0 []), (.osl 1 [] 14 0 v3 none), (.int .i64 v4)] ++ List.replicate 121 .any, items := [.lp (subc [1, 1, 1, 1, 0, 1, 0, 0] (bodyOf Tryd.f5)), .blk 0, .code (subc [1, 1, 1, 1, 1] (bodyOf Tryd.f5))], D := [], base := 0 },
      stk := [],
      H := [.cell true 34 (.arr 40 .bool v5), .cell true 23 (.arr v6 CForm v7)] }
  | .h1 v0 v1 =>
    { fr := { id := 5, kind := .top, T := List.replicate 5 .any ++ [(.ptr 0 [])] ++ List.replicate 6 .any ++ [(.int .i64 v0)] ++ List.replicate 116 .any, items := [.lp (subc [1, 1, 1, 1, 1, 0, 1, 0, 0] (bodyOf Tryd.f5)), .blk 2, .code (subc [1, 1, 1, 1, 1, 1] (bodyOf Tryd.f5))], D := [], base := 0 },
      stk := [],
      H := [.cell true 34 (.arr 40 .bool v1)] }
noncomputable def stop5 : FuncId → Nat → Nat → Option Cut
  | 5, 0, 0 => some { tmps := [0, 1, 5, 6, 7], loops := [], dead := [] }
  | 5, 4, 0 => some { tmps := [5, 12], loops := [], dead := [] }
  | _, _, _ => none
noncomputable def fn5 (x : (Int × Int)) : Bool := endVal (TC.dflt .bool) (step5 x) (tree5 x)
def pre5 (x : (Int × Int)) : Prop := ∃ r, Ends (step5 x) r (tree5 x)
noncomputable def spec5 : Spec := { dom := (.st (.int .i64) (.st1 (.int .i64))), cod := .bool, n := 1, pre := pre5, f := fn5 }
theorem run5 (W : Cfg) (Q : Bool → Prop) (x : (Int × Int)) : run (env tab4 (fun _ _ => none)) stop5 (finS spec5 Q) W 100000 (startFr 5 Tryd.f5 (bodyOf Tryd.f5) (argsOf (.st (.int .i64) (.st1 (.int .i64))) x)) [] [] = (tree5 x).wp (kont W Q (head5 x)) := by kernel_rfl
theorem run5h0 (W : Cfg) (Q : Bool → Prop) (x : (Int × Int)) (v0 : Int) (v1 : Int) (v3 : Nat) (v4 : Int) (v5 : (List Bool)) (v6 : Nat) (v7 : (List DForm)) : run (env tab4 (fun _ _ => none)) stop5 (finS spec5 Q) W 100000 (head5 x (.h0 v0 v1 v3 v4 v5 v6 v7)).fr.enter (head5 x (.h0 v0 v1 v3 v4 v5 v6 v7)).stk (head5 x (.h0 v0 v1 v3 v4 v5 v6 v7)).H = (step5 x (.h0 v0 v1 v3 v4 v5 v6 v7)).wp (kont W Q (head5 x)) := by kernel_rfl
theorem run5h1 (W : Cfg) (Q : Bool → Prop) (x : (Int × Int)) (v0 : Int) (v1 : (List Bool)) : run (env tab4 (fun _ _ => none)) stop5 (finS spec5 Q) W 100000 (head5 x (.h1 v0 v1)).fr.enter (head5 x (.h1 v0 v1)).stk (head5 x (.h1 v0 v1)).H = (step5 x (.h1 v0 v1)).wp (kont W Q (head5 x)) := by kernel_rfl
theorem runs5 (W : Cfg) (Q : Bool → Prop) (x : (Int × Int)) : ∀ j : J5, run (env tab4 (fun _ _ => none)) stop5 (finS spec5 Q) W 100000 (head5 x j).fr.enter (head5 x j).stk (head5 x j).H = (step5 x j).wp (kont W Q (head5 x))
  | .h0 v0 v1 v3 v4 v5 v6 v7 => run5h0 W Q x v0 v1 v3 v4 v5 v6 v7
  | .h1 v0 v1 => run5h1 W Q x v0 v1
theorem ok5 : SpecOk env0 5 spec5 := SpecOk.env rfl (fun _ _ h => h) (spec_of_trees (E := (env tab4 (fun _ _ => none))) (sp := spec5) (valid _ _) (fun f sp h => SpecOk.env rfl (fun _ _ h => h) (tab4_ok f sp h)) (fn := Tryd.f5) (c := (bodyOf Tryd.f5)) (by kernel_rfl) (by kernel_rfl) tree5 step5 head5 run5 runs5 (fun _ h => endVal_ends h))

noncomputable def tab5 : FuncId → Option Spec
  | 5 => some spec5
  | f => tab4 f
theorem tab5_ok : ∀ f sp, tab5 f = some sp → SpecOk env0 f sp := by
  intro f sp h
  unfold tab5 at h
  split at h
  · cases h; exact ok5
  · exact tab4_ok f sp h

/-! ### sundial/sundiallaw07.CodesBytes -/
noncomputable def tree6 (x : Int) : Tr Bool :=
  .need (pre8 ()) <|
  let y0 : Nat := (fn8 ()).length
  let y1 : Int := (y0 : Int)
  .ite (ieq y1 0) (
    .ret false) (
    .need ((y1 : Int) ≠ 0) <|
    .need ((y1 : Int) ≠ 0) <|
    let y2 : Int := (irem .i64 (iadd .i64 (irem .i64 x y1) y1) y1)
    .need ((0 : Int) ≤ y2) <|
    .need (y2 < (y0 : Int)) <|
    let y3 : Nat := (0 + (y2).toNat)
    .need ((y3 : Nat) < y0) <|
    let y4 : DForm := (rdc CForm (fn8 ()) y3)
    .need (pre16 y4) <|
    .need ((0 : Nat) < 4) <|
    .need ((1 : Nat) < 4) <|
    .need ((2 : Nat) < 4) <|
    .need ((3 : Nat) < 4) <|
    let y5 : (Int × (Int × (Bool × (Int × (Int × (Int × (Int × (Int × (Int × (Bool × (Bool × (Bool × Bool)))))))))))) := y4.2
    let y6 : Int := y5.1
    .ite ((ilt 3 y6) == false) (
      .need ((0 : Int) ≤ y6) <|
      .need ((y6 : Int) < 4) <|
      let y7 : Nat := (y6).toNat
      .need ((y7 : Nat) < 4) <|
      let y8 : (List Int) := (fn16 y4)
      let y9 : Nat := y8.length
      let y10 : Int := (y9 : Int)
      .ite ((ine y10 (rdc (.int .i64) [1, 2, 3, 3] y7)) == false) (
        let y11 : Int := (isub .i64 y10 1)
        .need ((0 : Int) ≤ y11) <|
        .need (y11 < (y9 : Int)) <|
        let y12 : Nat := (0 + (y11).toNat)
        .need ((y12 : Nat) < y9) <|
        .ite ((ine (rdc (.int .u8) y8 y12) y5.2.1) == false) (
          .ite ((ilt 1 y10) == true) (
            .need ((0 : Int) ≤ 0) <|
            .need (0 < (y9 : Int)) <|
            .need ((0 : Nat) < y9) <|
            .ite (ine (rdc (.int .u8) y8 0) 15) (
              .ret false) (
              .need ((0 : Int) ≤ y2) <|
              .need (y2 < (y0 : Int)) <|
              .need ((y3 : Nat) < y0) <|
              .need (((0 : Nat) + y9 : Nat) ≤ y9) <|
              .need ((0 : Int) ≤ 0) <|
              .need (0 < (y9 : Int)) <|
              .need ((0 : Nat) < y9) <|
              .need ((0 : Int) ≤ 0) <|
              .need (0 < (y9 : Int)) <|
              .need ((0 : Nat) < y9) <|
              .need (pre8 ()) <|
              let y13 : Bool := ((ilt y2 y1) == true)
              .ite y13 (
                .need ((0 : Int) ≤ y2) <|
                .need (y2 < (y0 : Int)) <|
                .need ((y3 : Nat) < y0) <|
                let y14 : Bool := ((eqD CForm y4 y4) == true)
                .ite y14 (
                  .need (pre16 y4) <|
                  let y15 : Bool := (((strOfNums y8) == (strOfNums (y8.take y9))) == true)
                  .ite y15 (
                    .need (pre18 ()) <|
                    .ret (fn18 ())) (
                    .ret false)) (
                  .ret false)) (
                .ret false))) (
            .need ((0 : Int) ≤ y2) <|
            .need (y2 < (y0 : Int)) <|
            .need ((y3 : Nat) < y0) <|
            .need (((0 : Nat) + y9 : Nat) ≤ y9) <|
            .need ((0 : Int) ≤ 0) <|
            .need (0 < (y9 : Int)) <|
            .need ((0 : Nat) < y9) <|
            .need ((0 : Int) ≤ 0) <|
            .need (0 < (y9 : Int)) <|
            .need ((0 : Nat) < y9) <|
            .need (pre8 ()) <|
            let y16 : Bool := ((ilt y2 y1) == true)
            .ite y16 (
              .need ((0 : Int) ≤ y2) <|
              .need (y2 < (y0 : Int)) <|
              .need ((y3 : Nat) < y0) <|
              let y17 : Bool := ((eqD CForm y4 y4) == true)
              .ite y17 (
                .need (pre16 y4) <|
                let y18 : Bool := (((strOfNums y8) == (strOfNums (y8.take y9))) == true)
                .ite y18 (
                  .need (pre18 ()) <|
                  .ret (fn18 ())) (
                  .ret false)) (
                .ret false)) (
              .ret false))) (
          .ret false)) (
        .ret false)) (
      .ret false))
noncomputable def fn6 (x : Int) : Bool := (tree6 x).val
def pre6 (x : Int) : Prop := (tree6 x).ok
noncomputable def spec6 : Spec := { dom := (.st1 (.int .i64)), cod := .bool, n := 1, pre := pre6, f := fn6 }
theorem run6 (W : Cfg) (Q : Bool → Prop) (x : Int) : run (env tab5 (fun _ _ => none)) (fun _ _ _ => none) (finS spec6 Q) W 100000 (startFr 6 Tryd.f6 (bodyOf Tryd.f6) (argsOf (.st1 (.int .i64)) x)) [] [] = (tree6 x).wp Q := by kernel_rfl
theorem ok6 : SpecOk env0 6 spec6 := SpecOk.env rfl (fun _ _ h => h) (spec_of_tree (E := (env tab5 (fun _ _ => none))) (sp := spec6) (valid _ _) (fun f sp h => SpecOk.env rfl (fun _ _ h => h) (tab5_ok f sp h)) (fn := Tryd.f6) (c := (bodyOf Tryd.f6)) (by kernel_rfl) (by kernel_rfl) tree6 run6 (fun _ h => Tr.gives_val h))

noncomputable def tab6 : FuncId → Option Spec
  | 6 => some spec6
  | f => tab5 f
theorem tab6_ok : ∀ f sp, tab6 f = some sp → SpecOk env0 f sp := by
  intro f sp h
  unfold tab6 at h
  split at h
  · cases h; exact ok6
  · exact tab5_ok f sp h

/-! ### sundial/sundiallaw07.CodesPrefix -/
noncomputable def tree7 (x : (Int × (Int × (Int × Int)))) : Tr Bool :=
  .need (pre10 x) <|
  let y0 : Bool := (ine x.1 0)
  .ite (y0 == true) (
    .ite ((ine x.1 102) == true) (
      .ite ((ine x.1 243) == false) (
        let y1 : Int := x.2.1
        let y2 : Bool := ((ilt 3 y1) == true)
        .ite y2 (
          let y3 : Bool := (fn10 x).2
          let y4 : Bool := (y3 == false)
          .ite y4 (
            let y5 : (Int × (Int × Int)) := (x.1, (y1, x.2.2.1))
            .need (pre14 y5) <|
            let y6 : Bool := (fn14 y5)
            .ite y6 (
              .ret false) (
              let y7 : DForm := (fn10 x).1
              let y8 : Bool := ((y3 == (!(eqD CForm y7 (0, (0, (0, (false, (0, (0, (0, (0, (0, (0, (false, (false, (false, false)))))))))))))))) == true)
              .ite y8 (
                let y9 : Bool := ((!y3) == false)
                .ite y9 (
                  let y10 : (Int × (Int × (Bool × (Int × (Int × (Int × (Int × (Int × (Int × (Bool × (Bool × (Bool × Bool)))))))))))) := y7.2
                  let y11 : (Int × (Int × (Int × (Bool × (Bool × (Bool × Bool)))))) := y10.2.2.2.2.2.2
                  let y12 : Bool := y11.2.2.2.2.1
                  let y13 : Bool := ((y12 == y0) == true)
                  .ite y13 (
                    let y14 : Bool := ((y12 == (ieq y11.1 16)) == true)
                    .ite y14 (
                      let y15 : Bool := ((ieq y7.1 x.1) == true)
                      .ite y15 (
                        let y16 : Bool := ((ieq y10.1 y1) == true)
                        .ite y16 (
                          .need (pre18 ()) <|
                          .ret (fn18 ())) (
                          .ret false)) (
                        .ret false)) (
                      .ret false)) (
                    .ret false)) (
                  .need (pre18 ()) <|
                  .ret (fn18 ()))) (
                .ret false))) (
            .ret false)) (
          let y17 : Bool := (fn10 x).2
          let y18 : DForm := (fn10 x).1
          let y19 : Bool := ((y17 == (!(eqD CForm y18 (0, (0, (0, (false, (0, (0, (0, (0, (0, (0, (false, (false, (false, false)))))))))))))))) == true)
          .ite y19 (
            let y20 : Bool := ((!y17) == false)
            .ite y20 (
              let y21 : (Int × (Int × (Bool × (Int × (Int × (Int × (Int × (Int × (Int × (Bool × (Bool × (Bool × Bool)))))))))))) := y18.2
              let y22 : (Int × (Int × (Int × (Bool × (Bool × (Bool × Bool)))))) := y21.2.2.2.2.2.2
              let y23 : Bool := y22.2.2.2.2.1
              let y24 : Bool := ((y23 == y0) == true)
              .ite y24 (
                let y25 : Bool := ((y23 == (ieq y22.1 16)) == true)
                .ite y25 (
                  let y26 : Bool := ((ieq y18.1 x.1) == true)
                  .ite y26 (
                    let y27 : Bool := ((ieq y21.1 y1) == true)
                    .ite y27 (
                      .need (pre18 ()) <|
                      .ret (fn18 ())) (
                      .ret false)) (
                    .ret false)) (
                  .ret false)) (
                .ret false)) (
              .need (pre18 ()) <|
              .ret (fn18 ()))) (
            .ret false))) (
        let y28 : Bool := (fn10 x).2
        let y29 : Bool := (y28 == false)
        .ite y29 (
          let y30 : Int := x.2.1
          let y31 : (Int × (Int × Int)) := (x.1, (y30, x.2.2.1))
          .need (pre14 y31) <|
          let y32 : Bool := (fn14 y31)
          .ite y32 (
            .ret false) (
            let y33 : DForm := (fn10 x).1
            let y34 : Bool := ((y28 == (!(eqD CForm y33 (0, (0, (0, (false, (0, (0, (0, (0, (0, (0, (false, (false, (false, false)))))))))))))))) == true)
            .ite y34 (
              let y35 : Bool := ((!y28) == false)
              .ite y35 (
                let y36 : (Int × (Int × (Bool × (Int × (Int × (Int × (Int × (Int × (Int × (Bool × (Bool × (Bool × Bool)))))))))))) := y33.2
                let y37 : (Int × (Int × (Int × (Bool × (Bool × (Bool × Bool)))))) := y36.2.2.2.2.2.2
                let y38 : Bool := y37.2.2.2.2.1
                let y39 : Bool := ((y38 == y0) == true)
                .ite y39 (
                  let y40 : Bool := ((y38 == (ieq y37.1 16)) == true)
                  .ite y40 (
                    let y41 : Bool := ((ieq y33.1 x.1) == true)
                    .ite y41 (
                      let y42 : Bool := ((ieq y36.1 y30) == true)
                      .ite y42 (
                        .need (pre18 ()) <|
                        .ret (fn18 ())) (
                        .ret false)) (
                      .ret false)) (
                    .ret false)) (
                  .ret false)) (
                .need (pre18 ()) <|
                .ret (fn18 ()))) (
              .ret false))) (
          .ret false))) (
      let y43 : Int := x.2.1
      let y44 : Bool := ((ilt 3 y43) == true)
      .ite y44 (
        let y45 : Bool := (fn10 x).2
        let y46 : Bool := (y45 == false)
        .ite y46 (
          let y47 : (Int × (Int × Int)) := (x.1, (y43, x.2.2.1))
          .need (pre14 y47) <|
          let y48 : Bool := (fn14 y47)
          .ite y48 (
            .ret false) (
            let y49 : DForm := (fn10 x).1
            let y50 : Bool := ((y45 == (!(eqD CForm y49 (0, (0, (0, (false, (0, (0, (0, (0, (0, (0, (false, (false, (false, false)))))))))))))))) == true)
            .ite y50 (
              let y51 : Bool := ((!y45) == false)
              .ite y51 (
                let y52 : (Int × (Int × (Bool × (Int × (Int × (Int × (Int × (Int × (Int × (Bool × (Bool × (Bool × Bool)))))))))))) := y49.2
                let y53 : (Int × (Int × (Int × (Bool × (Bool × (Bool × Bool)))))) := y52.2.2.2.2.2.2
                let y54 : Bool := y53.2.2.2.2.1
                let y55 : Bool := ((y54 == y0) == true)
                .ite y55 (
                  let y56 : Bool := ((y54 == (ieq y53.1 16)) == true)
                  .ite y56 (
                    let y57 : Bool := ((ieq y49.1 x.1) == true)
                    .ite y57 (
                      let y58 : Bool := ((ieq y52.1 y43) == true)
                      .ite y58 (
                        .need (pre18 ()) <|
                        .ret (fn18 ())) (
                        .ret false)) (
                      .ret false)) (
                    .ret false)) (
                  .ret false)) (
                .need (pre18 ()) <|
                .ret (fn18 ()))) (
              .ret false))) (
          .ret false)) (
        let y59 : Bool := (fn10 x).2
        let y60 : DForm := (fn10 x).1
        let y61 : Bool := ((y59 == (!(eqD CForm y60 (0, (0, (0, (false, (0, (0, (0, (0, (0, (0, (false, (false, (false, false)))))))))))))))) == true)
        .ite y61 (
          let y62 : Bool := ((!y59) == false)
          .ite y62 (
            let y63 : (Int × (Int × (Bool × (Int × (Int × (Int × (Int × (Int × (Int × (Bool × (Bool × (Bool × Bool)))))))))))) := y60.2
            let y64 : (Int × (Int × (Int × (Bool × (Bool × (Bool × Bool)))))) := y63.2.2.2.2.2.2
            let y65 : Bool := y64.2.2.2.2.1
            let y66 : Bool := ((y65 == y0) == true)
            .ite y66 (
              let y67 : Bool := ((y65 == (ieq y64.1 16)) == true)
              .ite y67 (
                let y68 : Bool := ((ieq y60.1 x.1) == true)
                .ite y68 (
                  let y69 : Bool := ((ieq y63.1 y43) == true)
                  .ite y69 (
                    .need (pre18 ()) <|
                    .ret (fn18 ())) (
                    .ret false)) (
                  .ret false)) (
                .ret false)) (
              .ret false)) (
            .need (pre18 ()) <|
            .ret (fn18 ()))) (
          .ret false)))) (
    let y70 : Int := x.2.1
    let y71 : Bool := ((ilt 3 y70) == true)
    .ite y71 (
      let y72 : Bool := (fn10 x).2
      let y73 : Bool := (y72 == false)
      .ite y73 (
        let y74 : (Int × (Int × Int)) := (x.1, (y70, x.2.2.1))
        .need (pre14 y74) <|
        let y75 : Bool := (fn14 y74)
        .ite y75 (
          .ret false) (
          let y76 : DForm := (fn10 x).1
          let y77 : Bool := ((y72 == (!(eqD CForm y76 (0, (0, (0, (false, (0, (0, (0, (0, (0, (0, (false, (false, (false, false)))))))))))))))) == true)
          .ite y77 (
            let y78 : Bool := ((!y72) == false)
            .ite y78 (
              let y79 : (Int × (Int × (Bool × (Int × (Int × (Int × (Int × (Int × (Int × (Bool × (Bool × (Bool × Bool)))))))))))) := y76.2
              let y80 : (Int × (Int × (Int × (Bool × (Bool × (Bool × Bool)))))) := y79.2.2.2.2.2.2
              let y81 : Bool := y80.2.2.2.2.1
              let y82 : Bool := ((y81 == y0) == true)
              .ite y82 (
                let y83 : Bool := ((y81 == (ieq y80.1 16)) == true)
                .ite y83 (
                  let y84 : Bool := ((ieq y76.1 x.1) == true)
                  .ite y84 (
                    let y85 : Bool := ((ieq y79.1 y70) == true)
                    .ite y85 (
                      .need (pre18 ()) <|
                      .ret (fn18 ())) (
                      .ret false)) (
                    .ret false)) (
                  .ret false)) (
                .ret false)) (
              .need (pre18 ()) <|
              .ret (fn18 ()))) (
            .ret false))) (
        .ret false)) (
      let y86 : Bool := (fn10 x).2
      let y87 : DForm := (fn10 x).1
      let y88 : Bool := ((y86 == (!(eqD CForm y87 (0, (0, (0, (false, (0, (0, (0, (0, (0, (0, (false, (false, (false, false)))))))))))))))) == true)
      .ite y88 (
        let y89 : Bool := ((!y86) == false)
        .ite y89 (
          let y90 : (Int × (Int × (Bool × (Int × (Int × (Int × (Int × (Int × (Int × (Bool × (Bool × (Bool × Bool)))))))))))) := y87.2
          let y91 : (Int × (Int × (Int × (Bool × (Bool × (Bool × Bool)))))) := y90.2.2.2.2.2.2
          let y92 : Bool := y91.2.2.2.2.1
          let y93 : Bool := ((y92 == y0) == true)
          .ite y93 (
            let y94 : Bool := ((y92 == (ieq y91.1 16)) == true)
            .ite y94 (
              let y95 : Bool := ((ieq y87.1 x.1) == true)
              .ite y95 (
                let y96 : Bool := ((ieq y90.1 y70) == true)
                .ite y96 (
                  .need (pre18 ()) <|
                  .ret (fn18 ())) (
                  .ret false)) (
                .ret false)) (
              .ret false)) (
            .ret false)) (
          .need (pre18 ()) <|
          .ret (fn18 ()))) (
        .ret false)))
noncomputable def fn7 (x : (Int × (Int × (Int × Int)))) : Bool := (tree7 x).val
def pre7 (x : (Int × (Int × (Int × Int)))) : Prop := (tree7 x).ok
noncomputable def spec7 : Spec := { dom := (.st (.int .u8) (.st (.int .u8) (.st (.int .u8) (.st1 (.int .i64))))), cod := .bool, n := 1, pre := pre7, f := fn7 }
theorem run7 (W : Cfg) (Q : Bool → Prop) (x : (Int × (Int × (Int × Int)))) : run (env tab6 (fun _ _ => none)) (fun _ _ _ => none) (finS spec7 Q) W 100000 (startFr 7 Tryd.f7 (bodyOf Tryd.f7) (argsOf (.st (.int .u8) (.st (.int .u8) (.st (.int .u8) (.st1 (.int .i64))))) x)) [] [] = (tree7 x).wp Q := by kernel_rfl
theorem ok7 : SpecOk env0 7 spec7 := SpecOk.env rfl (fun _ _ h => h) (spec_of_tree (E := (env tab6 (fun _ _ => none))) (sp := spec7) (valid _ _) (fun f sp h => SpecOk.env rfl (fun _ _ h => h) (tab6_ok f sp h)) (fn := Tryd.f7) (c := (bodyOf Tryd.f7)) (by kernel_rfl) (by kernel_rfl) tree7 run7 (fun _ h => Tr.gives_val h))

noncomputable def tab7 : FuncId → Option Spec
  | 7 => some spec7
  | f => tab6 f
theorem tab7_ok : ∀ f sp, tab7 f = some sp → SpecOk env0 f sp := by
  intro f sp h
  unfold tab7 at h
  split at h
  · cases h; exact ok7
  · exact tab6_ok f sp h

end Go.Eng.RB
end
section
/- The forms, as data; what the functions that tell them come to. -/
namespace Go.Eng.RB
open Go.Eng

def lMoves : List DForm := [(0, 0, 137, false, (-1), 1, 0, 0, 1, 0, false, false, false, false),
  (0, 0, 139, false, (-1), 1, 0, 0, 2, 0, false, false, false, false),
  (0, 0, 199, false, 0, 1, 0, 0, 4, 4, false, false, false, false),
  (0, 0, 184, true, (-1), 1, 0, 8, 7, 8, true, false, false, false),
  (0, 0, 136, false, (-1), 1, 0, 1, 1, 0, false, false, true, false),
  (0, 0, 138, false, (-1), 1, 0, 1, 2, 0, false, false, true, false),
  (0, 0, 198, false, 0, 1, 0, 1, 4, 1, false, false, true, false),
  (0, 0, 141, false, (-1), 2, 0, 0, 2, 0, false, false, false, true)]

def lSums : List DForm := [(0, 0, 1, false, (-1), 3, 0, 0, 1, 0, false, false, false, false),
  (0, 0, 3, false, (-1), 3, 0, 0, 2, 0, false, false, false, false),
  (0, 0, 9, false, (-1), 4, 0, 0, 1, 0, false, false, false, false),
  (0, 0, 11, false, (-1), 4, 0, 0, 2, 0, false, false, false, false),
  (0, 0, 17, false, (-1), 5, 0, 0, 1, 0, false, false, false, false),
  (0, 0, 19, false, (-1), 5, 0, 0, 2, 0, false, false, false, false),
  (0, 0, 25, false, (-1), 6, 0, 0, 1, 0, false, false, false, false),
  (0, 0, 27, false, (-1), 6, 0, 0, 2, 0, false, false, false, false),
  (0, 0, 33, false, (-1), 7, 0, 0, 1, 0, false, false, false, false),
  (0, 0, 35, false, (-1), 7, 0, 0, 2, 0, false, false, false, false),
  (0, 0, 41, false, (-1), 8, 0, 0, 1, 0, false, false, false, false),
  (0, 0, 43, false, (-1), 8, 0, 0, 2, 0, false, false, false, false),
  (0, 0, 49, false, (-1), 9, 0, 0, 1, 0, false, false, false, false),
  (0, 0, 51, false, (-1), 9, 0, 0, 2, 0, false, false, false, false),
  (0, 0, 57, false, (-1), 10, 0, 0, 1, 0, false, false, false, false),
  (0, 0, 59, false, (-1), 10, 0, 0, 2, 0, false, false, false, false),
  (0, 0, 131, false, 0, 3, 0, 0, 4, 1, false, false, false, false),
  (0, 0, 129, false, 0, 3, 0, 0, 4, 4, false, false, false, false),
  (0, 0, 131, false, 1, 4, 0, 0, 4, 1, false, false, false, false),
  (0, 0, 129, false, 1, 4, 0, 0, 4, 4, false, false, false, false),
  (0, 0, 131, false, 2, 5, 0, 0, 4, 1, false, false, false, false),
  (0, 0, 129, false, 2, 5, 0, 0, 4, 4, false, false, false, false),
  (0, 0, 131, false, 3, 6, 0, 0, 4, 1, false, false, false, false),
  (0, 0, 129, false, 3, 6, 0, 0, 4, 4, false, false, false, false),
  (0, 0, 131, false, 4, 7, 0, 0, 4, 1, false, false, false, false),
  (0, 0, 129, false, 4, 7, 0, 0, 4, 4, false, false, false, false),
  (0, 0, 131, false, 5, 8, 0, 0, 4, 1, false, false, false, false),
  (0, 0, 129, false, 5, 8, 0, 0, 4, 4, false, false, false, false),
  (0, 0, 131, false, 6, 9, 0, 0, 4, 1, false, false, false, false),
  (0, 0, 129, false, 6, 9, 0, 0, 4, 4, false, false, false, false),
  (0, 0, 131, false, 7, 10, 0, 0, 4, 1, false, false, false, false),
  (0, 0, 129, false, 7, 10, 0, 0, 4, 4, false, false, false, false),
  (0, 0, 133, false, (-1), 11, 0, 0, 1, 0, false, false, false, false),
  (0, 0, 247, false, 0, 11, 0, 0, 4, 4, false, false, false, false),
  (0, 0, 255, false, 0, 12, 0, 0, 3, 0, false, false, false, false),
  (0, 0, 255, false, 1, 13, 0, 0, 3, 0, false, false, false, false),
  (0, 0, 247, false, 2, 15, 0, 0, 3, 0, false, false, false, false),
  (0, 0, 247, false, 3, 14, 0, 0, 3, 0, false, false, false, false),
  (0, 0, 247, false, 4, 22, 0, 0, 3, 0, false, false, false, false),
  (0, 0, 247, false, 6, 23, 0, 0, 3, 0, false, false, false, false),
  (0, 0, 193, false, 0, 19, 0, 0, 4, 1, false, false, false, false),
  (0, 0, 211, false, 0, 19, 0, 0, 5, 0, false, false, false, false),
  (0, 0, 193, false, 1, 20, 0, 0, 4, 1, false, false, false, false),
  (0, 0, 211, false, 1, 20, 0, 0, 5, 0, false, false, false, false),
  (0, 0, 193, false, 4, 16, 0, 0, 4, 1, false, false, false, false),
  (0, 0, 211, false, 4, 16, 0, 0, 5, 0, false, false, false, false),
  (0, 0, 193, false, 5, 17, 0, 0, 4, 1, false, false, false, false),
  (0, 0, 211, false, 5, 17, 0, 0, 5, 0, false, false, false, false),
  (0, 0, 193, false, 7, 18, 0, 0, 4, 1, false, false, false, false),
  (0, 0, 211, false, 7, 18, 0, 0, 5, 0, false, false, false, false),
  (0, 1, 175, false, (-1), 21, 0, 0, 2, 0, false, false, false, false)]

def lFlowsA : List DForm := [(0, 0, 80, true, (-1), 24, 0, 8, 6, 0, false, false, false, false),
  (0, 0, 88, true, (-1), 25, 0, 8, 6, 0, false, false, false, false),
  (0, 0, 232, false, (-1), 26, 0, 8, 8, 4, false, false, false, false),
  (0, 0, 195, false, (-1), 27, 0, 8, 0, 0, false, false, false, false),
  (0, 0, 233, false, (-1), 28, 0, 8, 8, 4, false, false, false, false),
  (0, 0, 235, false, (-1), 28, 0, 8, 8, 1, false, false, false, false),
  (0, 0, 255, false, 4, 28, 0, 8, 3, 0, false, false, false, false),
  (0, 1, 128, false, (-1), 29, 0, 8, 8, 4, false, false, false, false),
  (0, 0, 112, false, (-1), 29, 0, 8, 8, 1, false, false, false, false),
  (0, 1, 129, false, (-1), 29, 1, 8, 8, 4, false, false, false, false),
  (0, 0, 113, false, (-1), 29, 1, 8, 8, 1, false, false, false, false),
  (0, 1, 130, false, (-1), 29, 2, 8, 8, 4, false, false, false, false),
  (0, 0, 114, false, (-1), 29, 2, 8, 8, 1, false, false, false, false),
  (0, 1, 131, false, (-1), 29, 3, 8, 8, 4, false, false, false, false),
  (0, 0, 115, false, (-1), 29, 3, 8, 8, 1, false, false, false, false),
  (0, 1, 132, false, (-1), 29, 4, 8, 8, 4, false, false, false, false),
  (0, 0, 116, false, (-1), 29, 4, 8, 8, 1, false, false, false, false),
  (0, 1, 133, false, (-1), 29, 5, 8, 8, 4, false, false, false, false),
  (0, 0, 117, false, (-1), 29, 5, 8, 8, 1, false, false, false, false),
  (0, 1, 134, false, (-1), 29, 6, 8, 8, 4, false, false, false, false),
  (0, 0, 118, false, (-1), 29, 6, 8, 8, 1, false, false, false, false),
  (0, 1, 135, false, (-1), 29, 7, 8, 8, 4, false, false, false, false),
  (0, 0, 119, false, (-1), 29, 7, 8, 8, 1, false, false, false, false),
  (0, 1, 136, false, (-1), 29, 8, 8, 8, 4, false, false, false, false),
  (0, 0, 120, false, (-1), 29, 8, 8, 8, 1, false, false, false, false),
  (0, 1, 137, false, (-1), 29, 9, 8, 8, 4, false, false, false, false),
  (0, 0, 121, false, (-1), 29, 9, 8, 8, 1, false, false, false, false),
  (0, 1, 138, false, (-1), 29, 10, 8, 8, 4, false, false, false, false),
  (0, 0, 122, false, (-1), 29, 10, 8, 8, 1, false, false, false, false),
  (0, 1, 139, false, (-1), 29, 11, 8, 8, 4, false, false, false, false),
  (0, 0, 123, false, (-1), 29, 11, 8, 8, 1, false, false, false, false),
  (0, 1, 140, false, (-1), 29, 12, 8, 8, 4, false, false, false, false),
  (0, 0, 124, false, (-1), 29, 12, 8, 8, 1, false, false, false, false),
  (0, 1, 141, false, (-1), 29, 13, 8, 8, 4, false, false, false, false),
  (0, 0, 125, false, (-1), 29, 13, 8, 8, 1, false, false, false, false),
  (0, 1, 142, false, (-1), 29, 14, 8, 8, 4, false, false, false, false),
  (0, 0, 126, false, (-1), 29, 14, 8, 8, 1, false, false, false, false),
  (0, 1, 143, false, (-1), 29, 15, 8, 8, 4, false, false, false, false),
  (0, 0, 127, false, (-1), 29, 15, 8, 8, 1, false, false, false, false)]

def lFlowsB : List DForm := [(0, 1, 64, false, (-1), 30, 0, 0, 2, 0, false, false, false, false),
  (0, 1, 65, false, (-1), 30, 1, 0, 2, 0, false, false, false, false),
  (0, 1, 66, false, (-1), 30, 2, 0, 2, 0, false, false, false, false),
  (0, 1, 67, false, (-1), 30, 3, 0, 2, 0, false, false, false, false),
  (0, 1, 68, false, (-1), 30, 4, 0, 2, 0, false, false, false, false),
  (0, 1, 69, false, (-1), 30, 5, 0, 2, 0, false, false, false, false),
  (0, 1, 70, false, (-1), 30, 6, 0, 2, 0, false, false, false, false),
  (0, 1, 71, false, (-1), 30, 7, 0, 2, 0, false, false, false, false),
  (0, 1, 72, false, (-1), 30, 8, 0, 2, 0, false, false, false, false),
  (0, 1, 73, false, (-1), 30, 9, 0, 2, 0, false, false, false, false),
  (0, 1, 74, false, (-1), 30, 10, 0, 2, 0, false, false, false, false),
  (0, 1, 75, false, (-1), 30, 11, 0, 2, 0, false, false, false, false),
  (0, 1, 76, false, (-1), 30, 12, 0, 2, 0, false, false, false, false),
  (0, 1, 77, false, (-1), 30, 13, 0, 2, 0, false, false, false, false),
  (0, 1, 78, false, (-1), 30, 14, 0, 2, 0, false, false, false, false),
  (0, 1, 79, false, (-1), 30, 15, 0, 2, 0, false, false, false, false)]

def lFlowsC : List DForm := [(0, 1, 144, false, 0, 31, 0, 1, 3, 0, false, false, true, false),
  (0, 1, 145, false, 0, 31, 1, 1, 3, 0, false, false, true, false),
  (0, 1, 146, false, 0, 31, 2, 1, 3, 0, false, false, true, false),
  (0, 1, 147, false, 0, 31, 3, 1, 3, 0, false, false, true, false),
  (0, 1, 148, false, 0, 31, 4, 1, 3, 0, false, false, true, false),
  (0, 1, 149, false, 0, 31, 5, 1, 3, 0, false, false, true, false),
  (0, 1, 150, false, 0, 31, 6, 1, 3, 0, false, false, true, false),
  (0, 1, 151, false, 0, 31, 7, 1, 3, 0, false, false, true, false),
  (0, 1, 152, false, 0, 31, 8, 1, 3, 0, false, false, true, false),
  (0, 1, 153, false, 0, 31, 9, 1, 3, 0, false, false, true, false),
  (0, 1, 154, false, 0, 31, 10, 1, 3, 0, false, false, true, false),
  (0, 1, 155, false, 0, 31, 11, 1, 3, 0, false, false, true, false),
  (0, 1, 156, false, 0, 31, 12, 1, 3, 0, false, false, true, false),
  (0, 1, 157, false, 0, 31, 13, 1, 3, 0, false, false, true, false),
  (0, 1, 158, false, 0, 31, 14, 1, 3, 0, false, false, true, false),
  (0, 1, 159, false, 0, 31, 15, 1, 3, 0, false, false, true, false)]

def lOthers : List DForm := [(0, 1, 182, false, (-1), 32, 0, 0, 2, 0, false, false, true, false),
  (0, 1, 190, false, (-1), 33, 0, 0, 2, 0, false, false, true, false),
  (0, 0, 144, false, (-1), 34, 0, 8, 0, 0, false, false, false, false),
  (243, 1, 111, false, (-1), 35, 0, 16, 2, 0, false, true, false, false),
  (243, 1, 127, false, (-1), 35, 0, 16, 1, 0, false, true, false, false),
  (102, 1, 239, false, (-1), 36, 0, 16, 2, 0, false, true, false, false),
  (102, 2, 220, false, (-1), 37, 0, 16, 2, 0, false, true, false, false),
  (102, 2, 221, false, (-1), 38, 0, 16, 2, 0, false, true, false, false),
  (102, 3, 68, false, (-1), 39, 0, 16, 2, 1, false, true, false, false)]


def forms : List DForm := lMoves ++ lSums ++ (lFlowsA ++ lFlowsB ++ lFlowsC) ++ lOthers

theorem fn33_ok (x : Int × Int × Int) : pre33 x := trivial
theorem fn29_eq : fn29 () = lMoves := by kernel_rfl
theorem fn30_eq : fn30 () = lSums := by kernel_rfl
theorem fn32_eq : fn32 () = lOthers := by kernel_rfl
theorem fn31_eq : fn31 () = fn37 [lFlowsA, lFlowsB, lFlowsC] := by kernel_rfl
theorem fn22_eq : fn22 () = lSums := by kernel_rfl
theorem fn23_eq : fn23 () = lFlowsA ++ lFlowsB ++ lFlowsC := by kernel_rfl
theorem fn24_eq : fn24 () = lOthers := by kernel_rfl
end Go.Eng.RB
end
section
/- What the functions that tell the forms need holds; rows put one behind the other. -/
namespace Go.Eng.RB
open Go.Eng
set_option maxRecDepth 100000

theorem pre38_ok (x) : pre38 x := trivial
theorem pre36_ok (x) : pre36 x := trivial

theorem pre32_ok : pre32 () := by
  unfold pre32 tree32
  simp only [ok_need, ok_ret, pre38_ok]
  simp

theorem pre30_ok : pre30 () := by
  unfold pre30 tree30
  simp only [ok_need, ok_ret]
  simp

theorem pre29_ok : pre29 () := by
  unfold pre29 tree29
  simp only [ok_need, ok_ret, ok_all, ok_ite, fn33_ok, val_need, val_ite, val_ret]
  simp
  intro j
  have e0 : ilt 7 8 = true := rfl
  rw [e0]
  rcases Nat.eq_zero_or_pos j with rfl | hj
  · have e1 : ilt (7 + ((0 : Nat) : Int)) 8 = true := rfl
    rw [e1]
    refine ⟨⟨by omega, by omega, by omega, fun _ => ⟨by omega, by omega, by omega, fun j => ⟨by omega, by omega, by omega⟩⟩, fun h => by cases h⟩, rfl⟩
  · have e1 : ilt (7 + (j : Int)) 8 = false := by rw [ilt_no]; omega
    rw [e1]
    refine ⟨⟨by omega, by omega, by omega, (fun h => by cases h), fun _ => ⟨by omega, by omega, by omega, by omega, by omega, by omega, by omega, by omega⟩⟩, ?_⟩
    obtain ⟨k, rfl⟩ : ∃ k, j = k + 1 := ⟨j - 1, by omega⟩
    rfl

/-! ### Rows one behind the other -/
theorem rdc_row (xs : List (List DForm)) (i : Nat) (h : i < xs.length) : rdc (.slice CForm) xs i = xs[i] := rdc_at (c := .slice CForm) h

theorem take_flat (xs : List (List DForm)) (i : Nat) (h : i < xs.length) : (xs.take (i + 1)).flatten = (xs.take i).flatten ++ xs[i] := by
  rw [List.take_add_one, List.getElem?_eq_getElem h, List.flatten_append]
  simp

theorem flat_le (xs : List (List DForm)) (i : Nat) : ((xs.take i).flatten).length ≤ xs.flatten.length := by
  conv => rhs; rw [← List.take_append_drop i xs, List.flatten_append, List.length_append]
  omega

def zf : DForm := (0, (0, (0, (false, (0, (0, (0, (0, (0, (0, (false, (false, (false, false)))))))))))))

theorem splice_take {α : Type} (v : List α) (n : Nat) (y : List α) (h : n + y.length ≤ v.length) : (spliceL v (0 + n) y).take (n + y.length) = v.take n ++ y := by
  unfold spliceL
  rw [Nat.zero_add, ← List.append_assoc, List.take_append_of_le_length (by simp; omega)]
  rw [List.take_of_length_le (by simp; omega)]

theorem splice_len {α : Type} (v : List α) (n : Nat) (y : List α) (h : n + y.length ≤ v.length) : (spliceL v (0 + n) y).length = v.length := by
  unfold spliceL
  simp
  omega

section
variable (xs : List (List DForm)) (hx : xs.flatten.length ≤ 1000000) (hl : xs.length ≤ 1000000)
include hx hl

theorem concat_h1 : ∀ (m i : Nat), i + m = xs.length → ∀ (n cap z : Nat) (v : List DForm), v.length = z → cap ≤ z → n ≤ cap → n = ((xs.take i).flatten).length → v.take n = (xs.take i).flatten →
    Ends (step37 xs) xs.flatten (step37 xs (.h1 n cap xs.length i z v)) := by
  intro m
  induction m with
  | zero =>
    intro i hi n cap z v h1 h2 h3 h4 h5
    have e : ilt (i : Int) (xs.length : Int) = false := by rw [ilt_no]; omega
    simp only [step37]
    simp only [e, ends_ite, ends_need, ends_ret]
    refine ⟨(fun h => by cases h), fun _ => ⟨by omega, ?_⟩⟩
    rw [h5, List.take_of_length_le (by omega)]
  | succ m ih =>
    intro i hi n cap z v h1 h2 h3 h4 h5
    have e : ilt (i : Int) (xs.length : Int) = true := by rw [ilt_iff]; omega
    have hi' : i < xs.length := by omega
    have hf := take_flat xs i hi'
    have hle := flat_le xs (i + 1)
    have hn : n + xs[i].length = ((xs.take (i + 1)).flatten).length := by rw [hf, List.length_append, h4]
    have e2 : iadd .i64 (i : Int) 1 = ((i + 1 : Nat) : Int) := by rw [iadd_i64] <;> omega
    simp only [step37]
    simp only [e, ends_ite, ends_need, ends_all, ends_jump, Int.toNat_natCast, rdc_row xs i hi', e2]
    refine ⟨fun _ => ⟨by omega, by omega, fun _ => ⟨by omega, by omega, by omega, fun j => ?_⟩, fun h => ⟨?_, ?_⟩⟩, (fun h => by cases h)⟩
    · refine ih (i + 1) (by omega) _ _ _ _ ?_ (Nat.le_refl _) (Nat.le_add_right _ _) hn ?_
      · simp; omega
      · rw [List.append_assoc, ← List.append_assoc, List.take_append_of_le_length (by simp; omega), List.take_of_length_le (by simp; omega), hf, h5]
    · rw [ilt_no] at h; omega
    · rw [ilt_no] at h
      refine ih (i + 1) (by omega) _ _ _ _ ?_ h2 (by omega) hn ?_
      · rw [splice_len _ _ _ (by omega), h1]
      · rw [splice_take _ _ _ (by omega), h5, hf]

theorem concat_h2 : ∀ (m i : Nat), i + m = xs.length → (xs.take i).flatten = [] → Ends (step37 xs) xs.flatten (step37 xs (.h2 xs.length i)) := by
  intro m
  induction m with
  | zero =>
    intro i hi h5
    have e : ilt (i : Int) (xs.length : Int) = false := by rw [ilt_no]; omega
    simp only [step37]
    simp only [e, ends_ite, ends_ret]
    refine ⟨(fun h => by cases h), fun _ => ?_⟩
    rw [← h5, List.take_of_length_le (by omega)]
  | succ m ih =>
    intro i hi h5
    have e : ilt (i : Int) (xs.length : Int) = true := by rw [ilt_iff]; omega
    have hi' : i < xs.length := by omega
    have hf := take_flat xs i hi'
    have hle := flat_le xs (i + 1)
    rw [h5, List.nil_append] at hf
    have e2 : iadd .i64 (i : Int) 1 = ((i + 1 : Nat) : Int) := by rw [iadd_i64] <;> omega
    simp only [step37]
    simp only [e, ends_ite, ends_need, ends_all, ends_jump, Int.toNat_natCast, rdc_row xs i hi', e2]
    refine ⟨fun _ => ⟨by omega, by omega, fun h => ?_, fun h => ⟨?_, ?_, fun j => ?_⟩⟩, (fun h => by cases h)⟩
    · rw [ieq_iff] at h
      have : xs[i] = [] := List.length_eq_zero_iff.1 (by omega)
      exact ih (i + 1) (by omega) (by rw [hf, this])
    · rw [hf] at hle; omega
    · rw [hf] at hle; omega
    · refine concat_h1 xs hx hl m (i + 1) (by omega) _ _ _ _ ?_ (Nat.le_refl _) (Nat.le_add_right _ _) ?_ ?_
      · simp
      · rw [hf]
      · rw [hf, List.take_append_of_le_length (Nat.le_refl _), List.take_length]

theorem concat_h0 : ∀ (m i : Nat), i + m = xs.length → Ends (step37 xs) xs.flatten (step37 xs (.h0 (((xs.take i).flatten).length : Nat) xs.length i)) := by
  intro m
  induction m with
  | zero =>
    intro i hi
    have e : ilt (i : Int) (xs.length : Int) = false := by rw [ilt_no]; omega
    have hle := flat_le xs i
    have e3 : ∀ n : Nat, ilt (n : Int) 0 = false := fun n => by rw [ilt_no]; omega
    have e4 : isub .i64 ((((xs.take i).flatten).length : Nat) : Int) 0 = ((((xs.take i).flatten).length : Nat) : Int) := by rw [isub_i64] <;> omega
    simp only [step37]
    simp only [e, e3, e4, ends_ite, ends_need, ends_all, ends_jump, ends_fail, Int.toNat_natCast]
    refine ⟨(fun h => by cases h), fun _ => ⟨(fun h => by cases h), fun _ => ⟨fun h => ?_, fun h => ?_⟩⟩⟩
    · rw [ilt_iff] at h
      refine ⟨trivial, trivial, by omega, by omega, by omega, fun j => ⟨by omega, by simp, by simp, by simp, ?_⟩⟩
      refine concat_h1 xs hx hl xs.length 0 (by omega) _ _ _ _ ?_ (Nat.le_refl _) (Nat.zero_le _) ?_ ?_
      · simp
      · simp
      · simp
    · exact concat_h2 xs hx hl xs.length 0 (by omega) (by simp)
  | succ m ih =>
    intro i hi
    have e : ilt (i : Int) (xs.length : Int) = true := by rw [ilt_iff]; omega
    have hi' : i < xs.length := by omega
    have hf := take_flat xs i hi'
    have hle := flat_le xs (i + 1)
    have hlen : ((xs.take (i + 1)).flatten).length = ((xs.take i).flatten).length + xs[i].length := by rw [hf, List.length_append]
    have e2 : iadd .i64 (i : Int) 1 = ((i + 1 : Nat) : Int) := by rw [iadd_i64] <;> omega
    have e3 : iadd .i64 ((((xs.take i).flatten).length : Nat) : Int) (xs[i].length : Int) = ((((xs.take (i + 1)).flatten).length : Nat) : Int) := by rw [iadd_i64] <;> omega
    have e4 : ilt ((((xs.take (i + 1)).flatten).length : Nat) : Int) 0 = false := by rw [ilt_no]; omega
    simp only [step37]
    simp only [e, ends_ite, ends_need, ends_all, ends_jump, ends_fail, Int.toNat_natCast, rdc_row xs i hi', e2, e3, e4]
    exact ⟨fun _ => ⟨by omega, by omega, (fun h => by cases h), fun _ => ih (i + 1) (by omega)⟩, (fun h => by cases h)⟩

theorem concat_ends : Ends (step37 xs) xs.flatten (tree37 xs) := by
  unfold tree37
  rw [ends_jump]
  exact concat_h0 xs hx hl xs.length 0 (by omega)
end

theorem pre37_ok (xs : List (List DForm)) (hx : xs.flatten.length ≤ 1000000) (hl : xs.length ≤ 1000000) : pre37 xs := ⟨_, concat_ends xs hx hl⟩
theorem fn37_ok (xs : List (List DForm)) (hx : xs.flatten.length ≤ 1000000) (hl : xs.length ≤ 1000000) : fn37 xs = xs.flatten := endVal_eq (concat_ends xs hx hl)
theorem fn31_ok : fn31 () = lFlowsA ++ lFlowsB ++ lFlowsC := by
  rw [fn31_eq, fn37_ok _ (by decide) (by decide)]
  simp

theorem pre31_ok : pre31 () := by
  unfold pre31 tree31
  simp only [ok_need, ok_ret, pre36_ok]
  simp
  exact pre37_ok _ (by decide) (by decide)
end Go.Eng.RB
end
section
/- The forms: what is told of them, found among them. -/
namespace Go.Eng.RB
open Go.Eng
set_option maxRecDepth 100000

abbrev Key := Int × Int × Int × Int

/-! ### Does a form go with these? -/
def codeB (f : DForm) (op : Int) : Bool := if f.2.2.2.1 then ieq (iandn .u8 op 7) (iandn .u8 f.2.2.1 7) else ieq op f.2.2.1
def codeR (f : DForm) (op : Int) : Bool := if f.2.2.2.1 then ieq (iand .u8 op 248) (iand .u8 f.2.2.1 248) else ieq op f.2.2.1

theorem pre25_ok (x) : pre25 x := by
  unfold pre25 tree25; simp only [ok_ite, ok_ret]; simp
theorem fn25_ok (x : DForm × Int) : fn25 x = codeB x.1 x.2 := by
  unfold fn25 tree25 codeB; simp only [val_ite, val_ret]; cases x.1.2.2.2.1 <;> rfl
theorem pre26_ok (x) : pre26 x := by
  unfold pre26 tree26; simp only [ok_ite, ok_ret]; simp
theorem fn26_ok (x : DForm × Int) : fn26 x = codeR x.1 x.2 := by
  unfold fn26 tree26 codeR; simp only [val_ite, val_ret]; cases x.1.2.2.2.1 <;> rfl

def fitsB (f : DForm) (k : Key) : Bool := ieq f.1 k.1 && (ieq f.2.1 k.2.1 && (codeB f k.2.2.1 && (ieq f.2.2.2.2.1 (-1) || ieq f.2.2.2.2.1 k.2.2.2)))

theorem pre12_ok (x) : pre12 x := by
  unfold pre12 tree12; simp only [ok_ite, ok_need, ok_ret, pre25_ok]; simp
theorem fn12_ok (x : DForm × Key) : fn12 x = fitsB x.1 x.2 := by
  unfold fn12 tree12 fitsB; simp only [val_ite, val_need, val_ret, fn25_ok]
  cases ieq x.1.1 x.2.1 <;> cases ieq x.1.2.1 x.2.2.1 <;> cases codeB x.1 x.2.2.2.1 <;> cases ieq x.1.2.2.2.2.1 (-1) <;> simp

theorem andn7 (a : Int) (h0 : 0 ≤ a) (h1 : a < 256) : iandn .u8 a 7 = iand .u8 a 248 := by
  have : ∀ n : Fin 256, iandn .u8 (n.val : Int) 7 = iand .u8 (n.val : Int) 248 := by decide
  have h := this ⟨a.toNat, by omega⟩
  simpa [Int.toNat_of_nonneg h0] using h

/-- A byte. -/
def isB (a : Int) : Prop := 0 ≤ a ∧ a < 256

theorem code_eq (f : DForm) (op : Int) (h1 : isB f.2.2.1) (h2 : isB op) : codeR f op = codeB f op := by
  unfold codeR codeB
  rw [andn7 _ h1.1 h1.2, andn7 _ h2.1 h2.2]

theorem pre13_ok (x) : pre13 x := by
  unfold pre13 tree13; simp only [ok_ite, ok_need, ok_ret, pre26_ok]; simp
theorem fn13_ok (x : DForm × Key) (h1 : isB x.1.2.2.1) (h2 : isB x.2.2.2.1) : fn13 x = fitsB x.1 x.2 := by
  unfold fn13 tree13 fitsB; simp only [val_ite, val_need, val_ret, fn26_ok, code_eq _ _ h1 h2]
  cases ieq x.1.1 x.2.1 <;> cases ieq x.1.2.1 x.2.2.1 <;> cases codeB x.1 x.2.2.2.1 <;> cases ieq x.1.2.2.2.2.1 (-1) <;> simp

/-! ### All of them -/
def isBb (a : Int) : Bool := decide (0 ≤ a) && decide (a < 256)
theorem forms_byte : ∀ f ∈ forms, isB f.2.2.1 := by
  have : forms.all (fun f => isBb f.2.2.1) = true := by decide +kernel
  intro f hf
  have := List.all_eq_true.1 this f hf
  simpa [isBb, isB] using this

/-- No key goes with both. -/
def apartF (f g : DForm) : Bool := !(ieq f.1 g.1) || (!(ieq f.2.1 g.2.1) || ((if f.2.2.2.1 || g.2.2.2.1 then !(ieq (iandn .u8 f.2.2.1 7) (iandn .u8 g.2.2.1 7)) else !(ieq f.2.2.1 g.2.2.1)) ||
  (!(ieq f.2.2.2.2.1 (-1)) && (!(ieq g.2.2.2.2.1 (-1)) && !(ieq f.2.2.2.2.1 g.2.2.2.2.1)))))

theorem apart_no {f g : DForm} {k : Key} (h : apartF f g = true) (h1 : fitsB f k = true) : fitsB g k = false := by
  cases h2 : fitsB g k with
  | false => rfl
  | true =>
    exfalso
    simp only [fitsB, Bool.and_eq_true, Bool.or_eq_true, ieq_iff] at h1 h2
    obtain ⟨a1, a2, a3, a4⟩ := h1
    obtain ⟨b1, b2, b3, b4⟩ := h2
    simp only [apartF, Bool.or_eq_true, Bool.and_eq_true, Bool.not_eq_true', ieq_no] at h
    rcases h with h | h | h | ⟨h1, h2, h3⟩
    · exact h (a1.trans b1.symm)
    · exact h (a2.trans b2.symm)
    · have key : ∀ {f : DForm}, codeB f k.2.2.1 = true → iandn .u8 k.2.2.1 7 = iandn .u8 f.2.2.1 7 := by
        intro f hf
        unfold codeB at hf
        split at hf
        · exact ieq_iff.1 hf
        · rw [ieq_iff.1 hf]
      split at h
      · rw [Bool.not_eq_true', ieq_no] at h
        exact h ((key a3).symm.trans (key b3))
      · rename_i hp
        simp only [not_or, Bool.not_eq_true] at hp
        rw [Bool.not_eq_true', ieq_no] at h
        unfold codeB at a3 b3
        rw [hp.1] at a3
        rw [hp.2] at b3
        simp only [Bool.false_eq_true, if_false, ieq_iff] at a3 b3
        exact h (a3.symm.trans b3)
    · rcases a4 with a4 | a4
      · exact h1 a4
      · rcases b4 with b4 | b4
        · exact h2 b4
        · exact h3 (a4.trans b4.symm)

def pairB (p : DForm → DForm → Bool) : List DForm → Bool
  | [] => true
  | f :: l => l.all (p f) && pairB p l

theorem forms_apart : pairB apartF forms = true := by decide +kernel

theorem pair_spec {p : DForm → DForm → Bool} : ∀ {l : List DForm}, pairB p l = true → l.Pairwise fun f g => p f g = true
  | [], _ => .nil
  | f :: l, h => by
    simp only [pairB, Bool.and_eq_true] at h
    exact .cons (fun g hg => List.all_eq_true.1 h.1 g hg) (pair_spec h.2)

theorem one_fits {k : Key} : forms.Pairwise fun f g => fitsB f k = true → fitsB g k = false :=
  (pair_spec forms_apart).imp fun h h1 => apart_no h h1

/-- What is found. -/
def foundB (k : Key) : DForm × Bool := match forms.find? (fun f => fitsB f k) with | some f => (f, true) | none => (zf, false)

theorem find_of_fits {k : Key} : ∀ {l : List DForm}, (l.Pairwise fun f g => fitsB f k = true → fitsB g k = false) → ∀ {f : DForm}, f ∈ l → fitsB f k = true → l.find? (fun f => fitsB f k) = some f
  | [], _, _, hf, _ => nomatch hf
  | b :: l, hp, f, hf, hk => by
    cases hp with
    | cons h1 h2 =>
      rcases List.mem_cons.1 hf with rfl | hf
      · simp [hk]
      · have : fitsB b k = false := by
          cases ha : fitsB b k with
          | false => rfl
          | true => have := h1 _ hf ha; rw [hk] at this; cases this
        rw [List.find?_cons, this]
        exact find_of_fits h2 hf hk

theorem found_of {k : Key} {f : DForm} (hf : f ∈ forms) (hk : fitsB f k = true) : foundB k = (f, true) := by
  unfold foundB; rw [find_of_fits one_fits hf hk]

theorem found_some {k : Key} (h : (foundB k).2 = true) : (foundB k).1 ∈ forms ∧ fitsB (foundB k).1 k = true := by
  unfold foundB at *
  split
  · rename_i f hf
    exact ⟨List.mem_of_find?_eq_some hf, by have := List.find?_some hf; simpa using this⟩
  · rename_i hf; rw [hf] at h; cases h

theorem found_none {k : Key} (h : (foundB k).2 = false) : (foundB k).1 = zf ∧ ∀ f ∈ forms, fitsB f k = false := by
  unfold foundB at *
  split
  · rename_i f hf; rw [hf] at h; cases h
  · rename_i hf
    refine ⟨rfl, fun f hm => ?_⟩
    have := List.find?_eq_none.1 hf f hm
    simpa using this
end Go.Eng.RB
end
section
/- The forms told, found. -/
namespace Go.Eng.RB
open Go.Eng
set_option maxRecDepth 100000

def four : List (List DForm) := [lMoves, lSums, lFlowsA ++ lFlowsB ++ lFlowsC, lOthers]
theorem four_flat : four.flatten = forms := by simp [four, forms]
theorem four_eq : [fn29 (), fn30 (), fn31 (), fn32 ()] = four := by rw [fn29_eq, fn30_eq, fn31_ok, fn32_eq]; rfl
theorem four_len : four.length = 4 := rfl
theorem four_small : ∀ l ∈ four, l.length ≤ 1000 := by decide
theorem small_at (i : Nat) (h : i < 4) : (four[i]'(by rw [four_len]; exact h)).length ≤ 1000 := four_small _ (List.getElem_mem _)
theorem drop_four (i : Nat) (h : i < 4) : (four.drop i).flatten = four[i]'(by rw [four_len]; exact h) ++ (four.drop (i + 1)).flatten := by
  rw [List.drop_eq_getElem_cons (by rw [four_len]; exact h), List.flatten_cons]
theorem rdc_four (i : Nat) (h : i < 4) : rdc (.slice CForm) four i = four[i]'(by rw [four_len]; exact h) := rdc_at (c := .slice CForm) (by rw [four_len]; exact h)
theorem rdc_form (l : List DForm) (i : Nat) (h : i < l.length) : rdc CForm l i = l[i] := rdc_at (c := CForm) h
theorem one_more (i : Nat) (h : i < 1000000) : iadd .i64 (i : Int) 1 = ((i + 1 : Nat) : Int) := by rw [iadd_i64] <;> omega
theorem lt_yes {a b : Nat} (h : a < b) : ilt (a : Int) (b : Int) = true := by rw [ilt_iff]; omega
theorem lt_no {a b : Nat} (h : b ≤ a) : ilt (a : Int) (b : Int) = false := by rw [ilt_no]; omega

/-! ### Find -/
def foundIn (l : List DForm) (k : Key) : DForm × Bool := match l.find? (fun f => fitsB f k) with | some f => (f, true) | none => (zf, false)
theorem foundIn_cons (f : DForm) (l : List DForm) (k : Key) : foundIn (f :: l) k = if fitsB f k = true then (f, true) else foundIn l k := by
  unfold foundIn
  rw [List.find?_cons]
  cases h : fitsB f k <;> simp

theorem find_h1 (k : Key) (i : Nat) (hi : i < 4) (l : List DForm) (hl : l.length ≤ 1000) (ih : Ends (step10 k) (foundIn (four.drop (i + 1)).flatten k) (step10 k (.h0 four ((i + 1 : Nat) : Int) false))) :
    ∀ (m j : Nat), j + m = l.length → Ends (step10 k) (foundIn (l.drop j ++ (four.drop (i + 1)).flatten) k) (step10 k (.h1 four i l l.length j false)) := by
  intro m
  induction m with
  | zero =>
    intro j hj
    rw [List.drop_of_length_le (by omega), List.nil_append]
    simp only [step10]
    simp only [lt_no (show l.length ≤ j by omega), ends_ite, ends_jump, one_more i (by omega)]
    exact ⟨(fun h => by cases h), fun _ => ih⟩
  | succ m ihm =>
    intro j hj
    have hj' : j < l.length := by omega
    rw [List.drop_eq_getElem_cons hj', List.cons_append, foundIn_cons]
    simp only [step10]
    simp only [lt_yes hj', ends_ite, ends_need, ends_jump, ends_ret, Int.toNat_natCast, rdc_form l j hj', pre12_ok, fn12_ok, one_more j (by omega)]
    refine ⟨fun _ => ⟨by omega, by omega, trivial, fun h => ?_, fun h => ?_⟩, (fun h => by cases h)⟩
    · rw [if_pos h, h]
    · rw [if_neg (by simp [h]), h]
      exact ihm (j + 1) (by omega)

theorem find_h0 (k : Key) : ∀ (m i : Nat), i + m = 4 → Ends (step10 k) (foundIn (four.drop i).flatten k) (step10 k (.h0 four i false)) := by
  intro m
  induction m with
  | zero =>
    intro i hi
    have : i = 4 := by omega
    subst this
    simp only [step10]
    simp only [show ilt ((4 : Nat) : Int) 4 = false from rfl, ends_ite, ends_ret]
    exact ⟨(fun h => by cases h), fun _ => rfl⟩
  | succ m ih =>
    intro i hi
    have hi' : i < 4 := by omega
    have h1 := find_h1 k i hi' (four[i]'(by rw [four_len]; exact hi')) (small_at i hi') (ih (i + 1) (by omega)) _ 0 (Nat.zero_add _)
    have e : ilt (i : Int) 4 = true := by rw [ilt_iff]; omega
    rw [drop_four i hi']
    rw [List.drop_zero] at h1
    simp only [step10]
    simp only [e, ends_ite, ends_need, ends_jump, Int.toNat_natCast, rdc_four i hi']
    exact ⟨fun _ => ⟨by omega, by omega, by omega, h1⟩, (fun h => by cases h)⟩

theorem find_ends (k : Key) : Ends (step10 k) (foundB k) (tree10 k) := by
  unfold tree10
  rw [four_eq]
  simp only [ends_need, ends_jump, pre29_ok, pre30_ok, pre31_ok, pre32_ok]
  refine ⟨trivial, trivial, trivial, trivial, by omega, by omega, by omega, by omega, ?_⟩
  have := find_h0 k 4 0 rfl
  rw [List.drop_zero, four_flat] at this
  exact this

theorem pre10_ok (k : Key) : pre10 k := ⟨_, find_ends k⟩
theorem fn10_ok (k : Key) : fn10 k = foundB k := endVal_eq (find_ends k)

/-! ### Digits -/
abbrev Key3 := Int × Int × Int
def digB (f : DForm) (x : Key3) : Bool := ine f.2.2.2.2.1 (-1) && fitsB f (x.1, x.2.1, x.2.2, f.2.2.2.2.1)
def digitsB (x : Key3) : Bool := forms.any fun f => digB f x

theorem dig_h1 (x : Key3) (i : Nat) (hi : i < 4) (l : List DForm) (hl : l.length ≤ 1000) (ih : Ends (step14 x) ((four.drop (i + 1)).flatten.any fun f => digB f x) (step14 x (.h0 four ((i + 1 : Nat) : Int)))) :
    ∀ (m j : Nat), j + m = l.length → Ends (step14 x) ((l.drop j ++ (four.drop (i + 1)).flatten).any fun f => digB f x) (step14 x (.h1 four i l l.length j)) := by
  intro m
  induction m with
  | zero =>
    intro j hj
    rw [List.drop_of_length_le (by omega), List.nil_append]
    simp only [step14]
    simp only [lt_no (show l.length ≤ j by omega), ends_ite, ends_jump, one_more i (by omega)]
    exact ⟨(fun h => by cases h), fun _ => ih⟩
  | succ m ihm =>
    intro j hj
    have hj' : j < l.length := by omega
    have h2 := ihm (j + 1) (by omega)
    rw [List.drop_eq_getElem_cons hj', List.cons_append, List.any_cons]
    simp only [step14]
    simp only [lt_yes hj', ends_ite, ends_need, ends_jump, ends_ret, Int.toNat_natCast, rdc_form l j hj', pre12_ok, fn12_ok, one_more j (by omega)]
    refine ⟨fun _ => ⟨by omega, by omega, fun h => ⟨trivial, fun h' => ?_, fun h' => ?_⟩, fun h => ?_⟩, (fun h => by cases h)⟩
    · have : digB l[j] x = true := by unfold digB; simp at h; rw [h, h']; rfl
      rw [this]; rfl
    · have : digB l[j] x = false := by unfold digB; rw [h']; simp
      rw [this, Bool.false_or]; exact h2
    · have : digB l[j] x = false := by unfold digB; simp at h; rw [h]; rfl
      rw [this, Bool.false_or]; exact h2

theorem dig_h0 (x : Key3) : ∀ (m i : Nat), i + m = 4 → Ends (step14 x) ((four.drop i).flatten.any fun f => digB f x) (step14 x (.h0 four i)) := by
  intro m
  induction m with
  | zero =>
    intro i hi
    have : i = 4 := by omega
    subst this
    simp only [step14]
    simp only [show ilt ((4 : Nat) : Int) 4 = false from rfl, ends_ite, ends_ret]
    exact ⟨(fun h => by cases h), fun _ => rfl⟩
  | succ m ih =>
    intro i hi
    have hi' : i < 4 := by omega
    have h1 := dig_h1 x i hi' (four[i]'(by rw [four_len]; exact hi')) (small_at i hi') (ih (i + 1) (by omega)) _ 0 (Nat.zero_add _)
    have e : ilt (i : Int) 4 = true := by rw [ilt_iff]; omega
    rw [drop_four i hi']
    rw [List.drop_zero] at h1
    simp only [step14]
    simp only [e, ends_ite, ends_need, ends_jump, Int.toNat_natCast, rdc_four i hi']
    exact ⟨fun _ => ⟨by omega, by omega, by omega, h1⟩, (fun h => by cases h)⟩

theorem dig_ends (x : Key3) : Ends (step14 x) (digitsB x) (tree14 x) := by
  unfold tree14
  rw [four_eq]
  simp only [ends_need, ends_jump, pre29_ok, pre30_ok, pre31_ok, pre32_ok]
  refine ⟨trivial, trivial, trivial, trivial, by omega, by omega, by omega, by omega, ?_⟩
  have := dig_h0 x 4 0 rfl
  rw [List.drop_zero, four_flat] at this
  exact this

theorem pre14_ok (x : Key3) : pre14 x := ⟨_, dig_ends x⟩
theorem fn14_ok (x : Key3) : fn14 x = digitsB x := endVal_eq (dig_ends x)

/-! ### All of them, in a row of one's own -/
theorem forms_h2 (i : Nat) (hi : i < 4) (l : List DForm) (hl : l.length ≤ 1000) (hacc : ∀ n acc, acc.length = n → n ≤ 1000 * (i + 1) → Ends (step8 ()) (acc ++ (four.drop (i + 1)).flatten) (step8 () (.h3 four ((i + 1 : Nat) : Int) n n acc))) :
    ∀ (m j : Nat), j + m = l.length → ∀ (n : Nat) (acc : List DForm), acc.length = n → n ≤ 1000 * i + j → Ends (step8 ()) (acc ++ (l.drop j ++ (four.drop (i + 1)).flatten)) (step8 () (.h2 four i l l.length j n n acc)) := by
  intro m
  induction m with
  | zero =>
    intro j hj n acc h1 h2
    rw [List.drop_of_length_le (by omega), List.nil_append]
    simp only [step8]
    simp only [lt_no (show l.length ≤ j by omega), ends_ite, ends_jump, one_more i (by omega)]
    exact ⟨(fun h => by cases h), fun _ => hacc n acc h1 (by omega)⟩
  | succ m ihm =>
    intro j hj n acc h1 h2
    have hj' : j < l.length := by omega
    have h3 := ihm (j + 1) (by omega) (n + 1) (acc ++ [l[j]]) (by simp [h1]) (by omega)
    rw [List.drop_eq_getElem_cons hj', List.cons_append]
    rw [List.append_assoc] at h3
    simp only [step8]
    simp only [lt_yes hj', ends_ite, ends_need, ends_jump, ends_ret, Int.toNat_natCast, rdc_form l j hj', one_more j (by omega)]
    exact ⟨fun _ => ⟨by omega, by omega, by omega, by omega, trivial, by omega, by omega, h3⟩, (fun h => by cases h)⟩

theorem forms_h3 : ∀ (m i : Nat), i + m = 4 → ∀ (n : Nat) (acc : List DForm), acc.length = n → n ≤ 1000 * i → Ends (step8 ()) (acc ++ (four.drop i).flatten) (step8 () (.h3 four i n n acc)) := by
  intro m
  induction m with
  | zero =>
    intro i hi n acc h1 h2
    have : i = 4 := by omega
    subst this
    simp only [step8]
    simp only [show ilt ((4 : Nat) : Int) 4 = false from rfl, ends_ite, ends_need, ends_ret]
    refine ⟨(fun h => by cases h), fun _ => ⟨by omega, ?_⟩⟩
    rw [List.take_of_length_le (by omega), List.drop_of_length_le (by rw [four_len]; omega)]
    simp
  | succ m ih =>
    intro i hi n acc h1 h2
    have hi' : i < 4 := by omega
    have h3 := forms_h2 i hi' (four[i]'(by rw [four_len]; exact hi')) (small_at i hi') (fun n acc a b => ih (i + 1) (by omega) n acc a b) _ 0 (Nat.zero_add _) n acc h1 (by omega)
    have e : ilt (i : Int) 4 = true := by rw [ilt_iff]; omega
    rw [drop_four i hi']
    rw [List.drop_zero] at h3
    simp only [step8]
    simp only [e, ends_ite, ends_need, ends_jump, Int.toNat_natCast, rdc_four i hi']
    exact ⟨fun _ => ⟨by omega, by omega, by omega, h3⟩, (fun h => by cases h)⟩

theorem forms_ends : Ends (step8 ()) forms (tree8 ()) := by
  unfold tree8
  rw [four_eq]
  simp only [ends_need, ends_jump, pre29_ok, pre30_ok, pre31_ok, pre32_ok]
  refine ⟨trivial, trivial, trivial, trivial, by omega, by omega, by omega, by omega, ?_⟩
  simp only [step8]
  have e : rdc (.slice CForm) four ((0 : Int).toNat) = lMoves := rfl
  simp only [show ilt 0 4 = true from rfl, e, ends_ite, ends_need, ends_jump]
  refine ⟨fun _ => ⟨by omega, by omega, by omega, ?_⟩, (fun h => by cases h)⟩
  simp only [step8]
  have e1 : rdc CForm lMoves ((0 : Int).toNat) = lMoves[0] := rfl
  have e2 : ilt 0 (lMoves.length : Int) = true := rfl
  simp only [e1, e2, ends_ite, ends_need, ends_jump]
  refine ⟨fun _ => ⟨by omega, by decide, by omega, by omega, by omega, by omega, ?_⟩, (fun h => by cases h)⟩
  have h := forms_h2 0 (by omega) lMoves (by decide) (fun n acc a b => forms_h3 3 1 rfl n acc a b) 7 1 (by decide) 1 [lMoves[0]] rfl (by omega)
  have e3 : [lMoves[0]] ++ (lMoves.drop 1 ++ (four.drop (0 + 1)).flatten) = forms := by
    rw [← four_flat]; rfl
  rw [e3] at h
  exact h

theorem pre8_ok (x) : pre8 x := ⟨_, forms_ends⟩
theorem fn8_ok (x) : fn8 x = forms := endVal_eq forms_ends
end Go.Eng.RB
end
section
/- The document's answers on forms; opcodes' bytes; what the document says. -/
namespace Go.Eng.RB
open Go.Eng
set_option maxRecDepth 100000

theorem pre22_ok : pre22 () := by
  unfold pre22 tree22; simp only [ok_need, ok_ret]; simp
theorem pre23_ok : pre23 () := by
  unfold pre23 tree23; simp only [ok_need, ok_ret]; simp
theorem pre24_ok : pre24 () := by
  unfold pre24 tree24; simp only [ok_need, ok_ret]; simp
theorem len22 : (fn22 ()).length = 51 := by rw [fn22_eq]; rfl
theorem len23 : (fn23 ()).length = 71 := by rw [fn23_eq]; rfl
theorem len24 : (fn24 ()).length = 9 := by rw [fn24_eq]; rfl
theorem pre9_ok (x) : pre9 x := by
  unfold pre9 tree9
  simp only [ok_need, ok_ret, ok_ite, pre22_ok, pre23_ok, pre24_ok, len22, len23, len24]
  simp [ilt]
theorem fn9_ok (x) : fn9 x = forms := by
  cases x
  kernel_rfl
theorem forms_len : forms.length = 139 := rfl

/-! ### Find -/
theorem rfind_h0 (k : Key) (hk : isB k.2.2.1) : ∀ (m i : Nat), i + m = forms.length → Ends (step11 k) (foundIn (forms.drop i) k) (step11 k (.h0 forms i)) := by
  intro m
  induction m with
  | zero =>
    intro i hi
    rw [List.drop_of_length_le (by omega)]
    simp only [step11]
    simp only [lt_no (show forms.length ≤ i by omega), ends_ite, ends_ret]
    exact ⟨(fun h => by cases h), fun _ => rfl⟩
  | succ m ih =>
    intro i hi
    have hf := forms_len
    have hi' : i < forms.length := by omega
    have hb := forms_byte _ (List.getElem_mem hi')
    rw [List.drop_eq_getElem_cons hi', foundIn_cons]
    simp only [step11]
    simp only [lt_yes hi', ends_ite, ends_need, ends_jump, ends_ret, Int.toNat_natCast, rdc_form forms i hi', pre13_ok, one_more i (by omega)]
    rw [fn13_ok _ hb hk]
    refine ⟨fun _ => ⟨by omega, by omega, trivial, fun h => ⟨by omega, by omega, ?_⟩, fun h => ?_⟩, (fun h => by cases h)⟩
    · rw [if_pos h]
    · rw [if_neg (by simp [h])]
      exact ih (i + 1) (by omega)

theorem rfind_ends (k : Key) (hk : isB k.2.2.1) : Ends (step11 k) (foundB k) (tree11 k) := by
  unfold tree11
  simp only [ends_need, ends_jump, pre9_ok, fn9_ok]
  exact ⟨trivial, rfind_h0 k hk _ 0 (Nat.zero_add _)⟩

theorem pre11_ok (k : Key) (hk : isB k.2.2.1) : pre11 k := ⟨_, rfind_ends k hk⟩
theorem fn11_ok (k : Key) (hk : isB k.2.2.1) : fn11 k = foundB k := endVal_eq (rfind_ends k hk)

/-! ### Digits -/
theorem digB_eq (f : DForm) (x : Key3) : digB f x = (ieq f.1 x.1 && (ieq f.2.1 x.2.1 && (codeB f x.2.2 && ine f.2.2.2.2.1 (-1)))) := by
  unfold digB fitsB
  have e : ∀ a : Int, ieq a a = true := fun a => ieq_iff.2 rfl
  simp only [e, Bool.or_true, Bool.and_true]
  cases ieq f.1 x.1 <;> cases ieq f.2.1 x.2.1 <;> cases codeB f x.2.2 <;> cases ine f.2.2.2.2.1 (-1) <;> rfl

theorem rdig_h0 (x : Key3) (hk : isB x.2.2) : ∀ (m i : Nat), i + m = forms.length → Ends (step15 x) ((forms.drop i).any fun f => digB f x) (step15 x (.h0 forms i)) := by
  intro m
  induction m with
  | zero =>
    intro i hi
    rw [List.drop_of_length_le (by omega)]
    simp only [step15]
    simp only [lt_no (show forms.length ≤ i by omega), ends_ite, ends_ret]
    exact ⟨(fun h => by cases h), fun _ => rfl⟩
  | succ m ih =>
    intro i hi
    have hf := forms_len
    have hi' : i < forms.length := by omega
    have hb := forms_byte _ (List.getElem_mem hi')
    have h2 := ih (i + 1) (by omega)
    rw [List.drop_eq_getElem_cons hi', List.any_cons, digB_eq]
    simp only [step15]
    simp only [lt_yes hi', ends_ite, ends_need, ends_jump, ends_ret, Int.toNat_natCast, rdc_form forms i hi', pre26_ok, fn26_ok, code_eq _ _ hb hk, one_more i (by omega)]
    refine ⟨fun _ => ⟨by omega, by omega, fun a1 => ⟨by omega, by omega, fun a2 => ⟨by omega, by omega, trivial, fun a3 => ⟨by omega, by omega, fun a4 => ?_, fun a4 => ?_⟩, fun a3 => ?_⟩, fun a2 => ?_⟩, fun a1 => ?_⟩, (fun h => by cases h)⟩
    · simp at a1 a2 a3; rw [a1, a2, a3, a4]; rfl
    · rw [a4]; simpa using h2
    · simp at a3; rw [a3]; simpa using h2
    · simp at a2; rw [a2]; simpa using h2
    · simp at a1; rw [a1]; simpa using h2

theorem rdig_ends (x : Key3) (hk : isB x.2.2) : Ends (step15 x) (digitsB x) (tree15 x) := by
  unfold tree15
  simp only [ends_need, ends_jump, pre9_ok, fn9_ok]
  exact ⟨trivial, rdig_h0 x hk _ 0 (Nat.zero_add _)⟩

theorem pre15_ok (x : Key3) (hk : isB x.2.2) : pre15 x := ⟨_, rdig_ends x hk⟩
theorem fn15_ok (x : Key3) (hk : isB x.2.2) : fn15 x = digitsB x := endVal_eq (rdig_ends x hk)

/-! ### Bytes -/
def bytesB (f : DForm) : List Int := if f.2.1 = 1 then [15, f.2.2.1] else if f.2.1 = 2 then [15, 56, f.2.2.1] else if f.2.1 = 3 then [15, 58, f.2.2.1] else [f.2.2.1]

theorem conv_byte {a : Int} (h : isB a) : iconv .i64 a = a := by
  obtain ⟨h1, h2⟩ := h
  simp only [iconv, IntKind.wrap, IntKind.signed, IntKind.bits]
  simp
  omega

theorem pre17_ok (x) : pre17 x := by
  unfold pre17 tree17; simp only [ok_ite, ok_need, ok_ret]; simp
theorem fn17_ok (f : DForm) : fn17 f = bytesB f := by
  unfold fn17 tree17 bytesB
  simp only [val_ite, val_need, val_ret]
  by_cases h1 : f.2.1 = 1
  · rw [ieq_iff.2 h1, if_pos h1]; rfl
  · rw [ieq_no.2 h1, if_neg h1]
    by_cases h2 : f.2.1 = 2
    · rw [ieq_iff.2 h2, if_pos h2]; rfl
    · rw [ieq_no.2 h2, if_neg h2]
      by_cases h3 : f.2.1 = 3
      · rw [ieq_iff.2 h3, if_pos h3]; rfl
      · rw [ieq_no.2 h3, if_neg h3]; rfl

theorem pre16_ok (f : DForm) (h : isB f.2.1) : pre16 f := by
  obtain ⟨h1, h2⟩ := id h
  unfold pre16 tree16
  simp only [ok_ite, ok_need, ok_ret, conv_byte h, ile_no]
  refine ⟨by omega, by omega, by omega, by omega, by omega, fun _ => ⟨by omega, by omega, trivial⟩, fun h => ⟨h1, h, ?_⟩⟩
  simp
theorem fn16_ok (f : DForm) (h : isB f.2.1) : fn16 f = bytesB f := by
  obtain ⟨h1, h2⟩ := id h
  unfold fn16 tree16 bytesB
  simp only [val_ite, val_need, val_ret, conv_byte h]
  by_cases h4 : 4 ≤ f.2.1
  · rw [ile_iff.2 h4, if_neg (by omega), if_neg (by omega), if_neg (by omega)]; rfl
  · rw [ile_no.2 (by omega)]
    by_cases h0 : f.2.1 = 0
    · rw [ieq_iff.2 h0, if_neg (by omega), if_neg (by omega), if_neg (by omega)]; rfl
    · rw [ieq_no.2 h0]
      by_cases h1 : f.2.1 = 1
      · rw [ieq_iff.2 h1, if_pos h1]; rfl
      · rw [ieq_no.2 h1, if_neg h1]
        by_cases h2 : f.2.1 = 2
        · rw [ieq_iff.2 h2, if_pos h2]; rfl
        · rw [ieq_no.2 h2, if_neg h2, if_pos (by omega)]; rfl

/-! ### What the document says of c3 -/
theorem forms_map : ∀ f ∈ forms, isB f.2.1 := by
  have : forms.all (fun f => isBb f.2.1) = true := by decide +kernel
  intro f hf
  have := List.all_eq_true.1 this f hf
  simpa [isBb, isB] using this

theorem found1 : foundB (0, 0, 195, 0) = ((0, 0, 195, false, (-1), 27, 0, 8, 0, 0, false, false, false, false), true) := by kernel_rfl
theorem found2 : foundB (0, 0, 196, 0) = (zf, false) := by kernel_rfl
theorem found3 : foundB (0, 0, 131, 5) = ((0, 0, 131, false, 5, 8, 0, 0, 4, 1, false, false, false, false), true) := by kernel_rfl
theorem digits1 : digitsB (0, 0, 131) = true := by decide +kernel
theorem digits2 : digitsB (0, 0, 137) = false := by decide +kernel

theorem wakes_ok : pre18 () ∧ fn18 () = true := by
  unfold pre18 fn18 tree18
  simp only [ok_ite, ok_need, ok_ret, val_ite, val_need, val_ret, pre10_ok, fn10_ok, pre14_ok, fn14_ok, pre8_ok, pre9_ok, fn8_ok, fn9_ok, found1, found2, found3, digits1, digits2]
  rw [fn16_ok _ ⟨by decide, by decide⟩]
  have hp : pre16 (0, 0, 195, false, (-1), 27, 0, 8, 0, 0, false, false, false, false) := pre16_ok _ ⟨by decide, by decide⟩
  simp only [hp]
  have e : ∀ a : Int, ieq a a = true := fun a => ieq_iff.2 rfl
  simp [e, bytesB]
theorem pre18_ok (x) : pre18 x := wakes_ok.1
theorem fn18_ok (x) : fn18 x = true := wakes_ok.2
end Go.Eng.RB
end
section
/- The plain law of CodesTells. -/
namespace Go.Eng.RB
open Go.Eng Go.RowKit
set_option maxRecDepth 100000

theorem byte_of {x : Int} (w : (Lit.int .u8 x).wf = true) : isB x := by
  have : 0 ≤ x ∧ x ≤ 255 := by simpa [Lit.wf, IntKind.min, IntKind.max, IntKind.signed, IntKind.bits] using w
  exact ⟨this.1, by omega⟩
theorem int_of {x : Int} (w : (Lit.int .i64 x).wf = true) : -9223372036854775808 ≤ x ∧ x ≤ 9223372036854775807 := by
  simpa [Lit.wf, IntKind.min, IntKind.max, IntKind.signed, IntKind.bits] using w
theorem eqForm (x : DForm) : eqD CForm x x = true := eqD_self (c := CForm) rfl x

theorem tells_h0 (x : DForm × Key) (h1 : isB x.1.2.2.1) (h2 : isB x.1.2.1) (h3 : isB x.2.2.2.1) : ∀ (m i : Nat), i + m = forms.length → Ends (step3 x) true (step3 x (.h0 forms.length forms i forms.length forms)) := by
  intro m
  have hf := forms_len
  induction m with
  | zero =>
    intro i hi
    simp only [step3]
    simp only [lt_no (show forms.length ≤ i by omega), ends_ite, ends_need, ends_ret, pre10_ok, fn10_ok, pre11_ok _ h3, fn11_ok _ h3, eqForm, pre12_ok, pre13_ok, fn12_ok, fn13_ok x h1 h3, pre14_ok, fn14_ok,
      pre15_ok (x.2.1, (x.2.2.1, x.2.2.2.1)) h3, fn15_ok (x.2.1, (x.2.2.1, x.2.2.2.1)) h3, pre16_ok _ h2, fn16_ok _ h2, pre17_ok, fn17_ok, pre18_ok, fn18_ok]
    have e : ∀ a : ByteArray, (a == a) = true := fun a => (beq_str a a).2 rfl
    simp [e]
  | succ m ih =>
    intro i hi
    have hi' : i < forms.length := by omega
    simp only [step3]
    simp only [lt_yes hi', ends_ite, ends_need, ends_jump, ends_ret, Int.toNat_natCast, Nat.zero_add, rdc_form forms i hi', eqForm, one_more i (by omega)]
    exact ⟨fun _ => ⟨by omega, by omega, by omega, by omega, by omega, (fun h => by cases h), fun _ => ih (i + 1) (by omega)⟩, (fun h => by cases h)⟩

theorem codesTells (x : DForm × Key) (w : TC.wf (.st CForm (.st (.int .u8) (.st (.int .u8) (.st (.int .u8) (.st1 (.int .i64)))))) x) : pre3 x ∧ fn3 x = true := by
  obtain ⟨⟨_, w2, w3, _⟩, _, _, w4, _⟩ := w
  have h : Ends (step3 x) true (tree3 x) := by
    unfold tree3
    simp only [ends_need, ends_ite, ends_jump, ends_ret, pre8_ok, pre9_ok, fn8_ok, fn9_ok]
    refine ⟨trivial, trivial, fun h => ?_, fun _ => tells_h0 x (byte_of w3) (byte_of w2) (byte_of w4) _ 0 (Nat.zero_add _)⟩
    rw [ine_iff] at h
    exact absurd rfl h
  exact ⟨⟨_, h⟩, endVal_eq h⟩
end Go.Eng.RB
end
