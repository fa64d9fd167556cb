/- A part of the proof that the laws of this seat hold. Conditions: none beyond the row. -/
import Derived.Test.YtifnanjnonepaaaGreatDoorEng2
import Derived.Test.YtifnanjnonepaaaGreatDoorProg
import Derived.KernelRfl
import Derived.Lib.LaidTab
import Derived.Stop.LaidErr
set_option maxRecDepth 100000
set_option linter.unusedVariables false
set_option linter.unusedSimpArgs false
set_option linter.unusedSectionVars false
section
namespace Go.bz.RL
open Go.Proofs Go.bz
@[reducible] def jk:TC:=(.st .str (.bu (.int .u64)))
@[reducible] def ar:TC:=(.st .bool (.st (.int .i64) (.bu (.int .u64))))
abbrev aF:Type:=(Bool×(Int×Int))
@[reducible] def qb:TC:=(.st (.int .i64) (.st (.int .i64) (.st .bool (.bu (.int .u8)))))
@[reducible] def CO:TC:=(.st (.int .u8) (.st (.int .i64) (.st (.int .i64) (.st (.int .i64) (.st (.int .i64) (.st (.int .i64) (.st .bool (.bu (.int .i64)))))))))
abbrev DO:Type:=(Int×(Int×(Int×(Int×(Int×(Int×(Bool×Int)))))))
@[reducible] def fD:TC:=(.st (.slice (.int .i64)) (.st (.slice (.int .i64)) (.st (.slice (.int .i64)) (.st (.int .u8) (.st (.int .u8) (.st (.int .i64) (.st (.int .i64) (.bu .bool))))))))
abbrev aS:Type:=((List Int)×((List Int)×((List Int)×(Int×(Int×(Int×(Int×Bool)))))))
@[reducible] def Gz:TC:=(.st (.int .i64) (.st .str (.st .str (.st (.int .u8) (.st (.slice (.int .u8)) (.st (.int .i64) (.st (.int .i64) (.bu (.int .i64)))))))))
abbrev l3:Type:=(Int×(ByteArray×(ByteArray×(Int×((List Int)×(Int×(Int×Int)))))))
@[reducible] def bA:TC:=(.st (.int .u8) (.st (.int .u8) (.st (.int .i64) (.st CO (.st CO (.st (.int .u8) (.bu (.int .i64))))))))
abbrev DI:Type:=(Int×(Int×(Int×(DO×(DO×(Int×Int))))))
@[reducible] def aZ:TC:=(.st (.int .u8) (.st (.int .i64) (.st (.int .i64) (.st ar (.st ar (.st ar (.bu bA)))))))
abbrev bt:Type:=(Int×(Int×(Int×(aF×(aF×(aF×DI))))))
abbrev dQ:Type:=DI×Int
abbrev ao:Type:=List Int
abbrev kE:Type:=List Bool
abbrev jm:Type:=List l3
abbrev bM:Type:=Int×Int
abbrev aq:Type:=List bt
abbrev cI:Type:=Int×Unit
abbrev dh:Type:=aF×aF
abbrev za:Type:=aS×DO
abbrev nF:Type:=aS×Bool
abbrev HW:Type:=DO×ByteArray
abbrev B3:Type:=List bM
abbrev eM:Type:=List bt×Int
abbrev bq:Type:=ao×Int
abbrev eV:Type:=DO×bM
abbrev fW:Type:=List bt×aF
abbrev bx:Type:=List bt×Unit
abbrev lW:Type:=Int×(List aF)
abbrev bD:Type:=Int×bM
abbrev oS:Type:=aq×Int
abbrev ed:Type:=Bool×bM
abbrev zb:Type:=aq×Unit
abbrev zd:Type:=aq×aF
abbrev xE:Type:=aS×(DO×Int)
abbrev ze:Type:=aF×dh
abbrev eF:Type:=DO×eV
abbrev HX:Type:=List ed
abbrev xF:Type:=Int×lW
abbrev cq:Type:=ao×cI
abbrev Eh:Type:=List bt×dh
abbrev su:Type:=aq×aq
abbrev fb:Type:=Int×eF
abbrev fk:Type:=Int×xF
abbrev eK:Type:=ed×dh
abbrev nG:Type:=Int×(aF×ze)
abbrev ew:Type:=Int×(Unit×nG)
abbrev HY:Type:=Int×(Int×(Int×(Int×(Int×(Int×(Bool×Int))))))
abbrev bk:Type:=DI×ew
abbrev oT:Type:=ao×(ao×(ao×(Int×(Int×(Int×(Int×Bool))))))
abbrev M9:Type:=bk×(List bt×DO)
abbrev B4:Type:=bk×eM
abbrev B5:Type:=(Int×(ByteArray×(ByteArray×(Int×(ao×bD)))))×Bool
abbrev br:Type:=bk×bx
abbrev kF:Type:=bk×fW
abbrev B6:Type:=bk×oS
abbrev SZ:Type:=oT×DO
abbrev eA:Type:=bk×zb
abbrev fM:Type:=bk×zd
abbrev Na:Type:=oT×Bool
abbrev cr:Type:=cq×((Unit×(Unit×(ao×bD)))×Bool)
abbrev Nb:Type:=bk×(List bt×bM)
abbrev HZ:Type:=oT×(DO×Int)
abbrev S0:Type:=bk×(aq×bM)
abbrev B7:Type:=bk×Eh
abbrev sv:Type:=bk×(aq×dh)
abbrev Nc:Type:=bk×(List bt×(ao×aF))
abbrev Nd:Type:=bk×(List bt×(DO×(aF×Int)))
abbrev eW:Type:=(DI×(Int×(Unit×(Int×(aF×eK)))))×(aq×DO)
abbrev B8:Type:=bk×(List bt×(Int×dh))
abbrev Nf:Type:=bk×(aq×(ao×aF))
abbrev nX:Type:=bk×(aq×(DO×(aF×Int)))
abbrev B9:Type:=bk×(List bt×ze)
abbrev il:Type:=bk×(aq×(Int×dh))
abbrev Kv:Type:=bk×(aq×ze)
abbrev OT:Type:=bk×(List bt×xF)
abbrev WE:Type:=bk×(List bt×(DO×(aF×(Int×aF))))
abbrev gN:Type:=bk×(aq×xF)
abbrev XU:Type:=bk×(aq×(DO×(aF×(Int×aF))))
abbrev WG:Type:=bk×(List bt×fk)
abbrev k8:Type:=(DI×(Int×(Unit×(Int×(ed×eK)))))×(aq×DO)
abbrev WH:Type:=bk×(List bt×(ao×ze))
abbrev gQ:Type:=bk×(aq×fk)
abbrev XV:Type:=bk×(aq×(ao×ze))
abbrev XW:Type:=(Int×(Int×(Int×(HY×(HY×bM)))))×Int
@[reducible] def HQ:TC:=(.st bA (.st (.int .i64) (.st (.slice aZ) (.st (.int .u64) (.st ar (.st ar (.st ar (.bu ar))))))))
noncomputable def ty:TypeId→Option bG
 | 1=>some {desc:=Tryz.t1.desc,size:=1,bytes:=8,zero:=(.raw .nilFunc),code:=none}
 | 2=>some {desc:=(.int .i64),size:=1,bytes:=8,zero:=(.int .i64 0),code:=(some (.int .i64))}
 | 3=>some {desc:=(.int .i64),size:=1,bytes:=8,zero:=(.int .i64 0),code:=(some (.int .i64))}
 | 4=>some {desc:=.bool,size:=1,bytes:=1,zero:=(.bool false),code:=(some .bool)}
 | 5=>some {desc:=(.int .u8),size:=1,bytes:=1,zero:=(.int .u8 0),code:=(some (.int .u8))}
 | 6=>some {desc:=(.int .u8),size:=1,bytes:=1,zero:=(.int .u8 0),code:=(some (.int .u8))}
 | 7=>some {desc:=Tryz.t7.desc,size:=4,bytes:=24,zero:=(.agg [1,1,1,1] [(.int .i64 0),(.int .i64 0),(.bool false),(.int .u8 0)]),code:=(some qb)}
 | 8=>some {desc:=Tryz.t7.desc,size:=4,bytes:=24,zero:=(.agg [1,1,1,1] [(.int .i64 0),(.int .i64 0),(.bool false),(.int .u8 0)]),code:=(some qb)}
 | 9=>some {desc:=.string,size:=1,bytes:=16,zero:=(.str ByteArray.empty),code:=(some .str)}
 | 10=>some {desc:=.string,size:=1,bytes:=16,zero:=(.str ByteArray.empty),code:=(some .str)}
 | 11=>some {desc:=.string,size:=1,bytes:=16,zero:=(.str ByteArray.empty),code:=(some .str)}
 | 12=>some {desc:=(.int .u64),size:=1,bytes:=8,zero:=(.int .u64 0),code:=(some (.int .u64))}
 | 13=>some {desc:=Tryz.t13.desc,size:=2,bytes:=24,zero:=(.agg [1,1] [(.str ByteArray.empty),(.int .u64 0)]),code:=(some jk)}
 | 14=>some {desc:=Tryz.t13.desc,size:=2,bytes:=24,zero:=(.agg [1,1] [(.str ByteArray.empty),(.int .u64 0)]),code:=(some jk)}
 | 15=>some {desc:=(.pointer 149),size:=1,bytes:=8,zero:=(.raw (.pointer none)),code:=none}
 | 16=>some {desc:=(.pointer 152),size:=1,bytes:=8,zero:=(.raw (.pointer none)),code:=none}
 | 17=>some {desc:=(.pointer 161),size:=1,bytes:=8,zero:=(.raw (.pointer none)),code:=none}
 | 18=>some {desc:=Tryz.t18.desc,size:=1,bytes:=8,zero:=(.agg [1] [(.raw (.pointer none))]),code:=none}
 | 19=>some {desc:=Tryz.t18.desc,size:=1,bytes:=8,zero:=(.agg [1] [(.raw (.pointer none))]),code:=none}
 | 20=>some {desc:=Tryz.t20.desc,size:=1,bytes:=16,zero:=(.raw .nilIface),code:=none}
 | 21=>some {desc:=(.int .i32),size:=1,bytes:=4,zero:=(.int .i32 0),code:=(some (.int .i32))}
 | 22=>some {desc:=Tryz.t22.desc,size:=8,bytes:=64,zero:=(.agg [1,1,1,1,1,1,1,1] [(.int .u8 0),(.int .i64 0),(.int .i64 0),(.int .i64 0),(.int .i64 0),(.int .i64 0),(.bool false),(.int .i64 0)]),code:=(some CO)}
 | 23=>some {desc:=Tryz.t22.desc,size:=8,bytes:=64,zero:=(.agg [1,1,1,1,1,1,1,1] [(.int .u8 0),(.int .i64 0),(.int .i64 0),(.int .i64 0),(.int .i64 0),(.int .i64 0),(.bool false),(.int .i64 0)]),code:=(some CO)}
 | 24=>some {desc:=Tryz.t24.desc,size:=21,bytes:=160,zero:=(.agg [1,1,1,8,8,1,1] [(.int .u8 0),(.int .u8 0),(.int .i64 0),(.agg [1,1,1,1,1,1,1,1] [(.int .u8 0),(.int .i64 0),(.int .i64 0),(.int .i64 0),(.int .i64 0),(.int .i64 0),(.bool false),(.int .i64 0)]),(.agg [1,1,1,1,1,1,1,1] [(.int .u8 0),(.int .i64 0),(.int .i64 0),(.int .i64 0),(.int .i64 0),(.int .i64 0),(.bool false),(.int .i64 0)]),(.int .u8 0),(.int .i64 0)]),code:=(some bA)}
 | 25=>some {desc:=Tryz.t24.desc,size:=21,bytes:=160,zero:=(.agg [1,1,1,8,8,1,1] [(.int .u8 0),(.int .u8 0),(.int .i64 0),(.agg [1,1,1,1,1,1,1,1] [(.int .u8 0),(.int .i64 0),(.int .i64 0),(.int .i64 0),(.int .i64 0),(.int .i64 0),(.bool false),(.int .i64 0)]),(.agg [1,1,1,1,1,1,1,1] [(.int .u8 0),(.int .i64 0),(.int .i64 0),(.int .i64 0),(.int .i64 0),(.int .i64 0),(.bool false),(.int .i64 0)]),(.int .u8 0),(.int .i64 0)]),code:=(some bA)}
 | 26=>some {desc:=(.int .u64),size:=1,bytes:=8,zero:=(.int .u64 0),code:=(some (.int .u64))}
 | 27=>some {desc:=(.slice 38),size:=1,bytes:=24,zero:=(.raw (.slice none 0 0)),code:=(some (.slice aZ))}
 | 28=>some {desc:=(.int .i64),size:=1,bytes:=8,zero:=(.int .i64 0),code:=(some (.int .i64))}
 | 30=>some {desc:=Tryz.t30.desc,size:=1,bytes:=8,zero:=(.raw .nilFunc),code:=none}
 | 31=>some {desc:=Tryz.t31.desc,size:=1,bytes:=8,zero:=(.raw .nilFunc),code:=none}
 | 32=>some {desc:=Tryz.t32.desc,size:=1,bytes:=8,zero:=(.raw .nilFunc),code:=none}
 | 33=>some {desc:=Tryz.t33.desc,size:=1,bytes:=8,zero:=(.raw .nilFunc),code:=none}
 | 34=>some {desc:=Tryz.t34.desc,size:=1,bytes:=8,zero:=(.raw .nilFunc),code:=none}
 | 35=>some {desc:=Tryz.t35.desc,size:=3,bytes:=24,zero:=(.agg [1,1,1] [(.bool false),(.int .i64 0),(.int .u64 0)]),code:=(some ar)}
 | 36=>some {desc:=Tryz.t35.desc,size:=3,bytes:=24,zero:=(.agg [1,1,1] [(.bool false),(.int .i64 0),(.int .u64 0)]),code:=(some ar)}
 | 37=>some {desc:=Tryz.t37.desc,size:=33,bytes:=256,zero:=(.agg [1,1,1,3,3,3,21] [(.int .u8 0),(.int .i64 0),(.int .i64 0),(.agg [1,1,1] [(.bool false),(.int .i64 0),(.int .u64 0)]),(.agg [1,1,1] [(.bool false),(.int .i64 0),(.int .u64 0)]),(.agg [1,1,1] [(.bool false),(.int .i64 0),(.int .u64 0)]),(.agg [1,1,1,8,8,1,1] [(.int .u8 0),(.int .u8 0),(.int .i64 0),(.agg [1,1,1,1,1,1,1,1] [(.int .u8 0),(.int .i64 0),(.int .i64 0),(.int .i64 0),(.int .i64 0),(.int .i64 0),(.bool false),(.int .i64 0)]),(.agg [1,1,1,1,1,1,1,1] [(.int .u8 0),(.int .i64 0),(.int .i64 0),(.int .i64 0),(.int .i64 0),(.int .i64 0),(.bool false),(.int .i64 0)]),(.int .u8 0),(.int .i64 0)])]),code:=(some aZ)}
 | 38=>some {desc:=Tryz.t37.desc,size:=33,bytes:=256,zero:=(.agg [1,1,1,3,3,3,21] [(.int .u8 0),(.int .i64 0),(.int .i64 0),(.agg [1,1,1] [(.bool false),(.int .i64 0),(.int .u64 0)]),(.agg [1,1,1] [(.bool false),(.int .i64 0),(.int .u64 0)]),(.agg [1,1,1] [(.bool false),(.int .i64 0),(.int .u64 0)]),(.agg [1,1,1,8,8,1,1] [(.int .u8 0),(.int .u8 0),(.int .i64 0),(.agg [1,1,1,1,1,1,1,1] [(.int .u8 0),(.int .i64 0),(.int .i64 0),(.int .i64 0),(.int .i64 0),(.int .i64 0),(.bool false),(.int .i64 0)]),(.agg [1,1,1,1,1,1,1,1] [(.int .u8 0),(.int .i64 0),(.int .i64 0),(.int .i64 0),(.int .i64 0),(.int .i64 0),(.bool false),(.int .i64 0)]),(.int .u8 0),(.int .i64 0)])]),code:=(some aZ)}
 | 39=>some {desc:=Tryz.t39.desc,size:=1,bytes:=8,zero:=(.raw .nilFunc),code:=none}
 | 40=>some {desc:=Tryz.t40.desc,size:=1,bytes:=8,zero:=(.raw .nilFunc),code:=none}
 | 41=>some {desc:=(.slice 3),size:=1,bytes:=24,zero:=(.raw (.slice none 0 0)),code:=(some (.slice (.int .i64)))}
 | 42=>some {desc:=Tryz.t42.desc,size:=8,bytes:=104,zero:=(.agg [1,1,1,1,1,1,1,1] [(.raw (.slice none 0 0)),(.raw (.slice none 0 0)),(.raw (.slice none 0 0)),(.int .u8 0),(.int .u8 0),(.int .i64 0),(.int .i64 0),(.bool false)]),code:=(some fD)}
 | 43=>some {desc:=Tryz.t42.desc,size:=8,bytes:=104,zero:=(.agg [1,1,1,1,1,1,1,1] [(.raw (.slice none 0 0)),(.raw (.slice none 0 0)),(.raw (.slice none 0 0)),(.int .u8 0),(.int .u8 0),(.int .i64 0),(.int .i64 0),(.bool false)]),code:=(some fD)}
 | 44=>some {desc:=Tryz.t44.desc,size:=1,bytes:=8,zero:=(.raw .nilFunc),code:=none}
 | 45=>some {desc:=(.array 16 4),size:=16,bytes:=16,zero:=(.arr 16 .bool (List.replicate 16 false)),code:=(some (.arr 16 .bool))}
 | 46=>some {desc:=(.array 5 5),size:=5,bytes:=5,zero:=(.arr 5 (.int .u8) (List.replicate 5 (0:Int))),code:=(some (.arr 5 (.int .u8)))}
 | 47=>some {desc:=(.array 3 36),size:=9,bytes:=72,zero:=(.arr 3 ar (List.replicate 3 (false,(0,0)))),code:=(some (.arr 3 ar))}
 | 48=>some {desc:=Tryz.t48.desc,size:=1,bytes:=8,zero:=(.raw .nilFunc),code:=none}
 | 49=>some {desc:=(.pointer 51),size:=1,bytes:=8,zero:=(.raw (.pointer none)),code:=none}
 | 50=>some {desc:=Tryz.t50.desc,size:=36,bytes:=296,zero:=(.agg [21,1,1,1,3,3,3,3] [(.agg [1,1,1,8,8,1,1] [(.int .u8 0),(.int .u8 0),(.int .i64 0),(.agg [1,1,1,1,1,1,1,1] [(.int .u8 0),(.int .i64 0),(.int .i64 0),(.int .i64 0),(.int .i64 0),(.int .i64 0),(.bool false),(.int .i64 0)]),(.agg [1,1,1,1,1,1,1,1] [(.int .u8 0),(.int .i64 0),(.int .i64 0),(.int .i64 0),(.int .i64 0),(.int .i64 0),(.bool false),(.int .i64 0)]),(.int .u8 0),(.int .i64 0)]),(.int .i64 0),(.raw (.slice none 0 0)),(.int .u64 0),(.agg [1,1,1] [(.bool false),(.int .i64 0),(.int .u64 0)]),(.agg [1,1,1] [(.bool false),(.int .i64 0),(.int .u64 0)]),(.agg [1,1,1] [(.bool false),(.int .i64 0),(.int .u64 0)]),(.agg [1,1,1] [(.bool false),(.int .i64 0),(.int .u64 0)])]),code:=(some HQ)}
 | 51=>some {desc:=Tryz.t50.desc,size:=36,bytes:=296,zero:=(.agg [21,1,1,1,3,3,3,3] [(.agg [1,1,1,8,8,1,1] [(.int .u8 0),(.int .u8 0),(.int .i64 0),(.agg [1,1,1,1,1,1,1,1] [(.int .u8 0),(.int .i64 0),(.int .i64 0),(.int .i64 0),(.int .i64 0),(.int .i64 0),(.bool false),(.int .i64 0)]),(.agg [1,1,1,1,1,1,1,1] [(.int .u8 0),(.int .i64 0),(.int .i64 0),(.int .i64 0),(.int .i64 0),(.int .i64 0),(.bool false),(.int .i64 0)]),(.int .u8 0),(.int .i64 0)]),(.int .i64 0),(.raw (.slice none 0 0)),(.int .u64 0),(.agg [1,1,1] [(.bool false),(.int .i64 0),(.int .u64 0)]),(.agg [1,1,1] [(.bool false),(.int .i64 0),(.int .u64 0)]),(.agg [1,1,1] [(.bool false),(.int .i64 0),(.int .u64 0)]),(.agg [1,1,1] [(.bool false),(.int .i64 0),(.int .u64 0)])]),code:=(some HQ)}
 | 52=>some {desc:=Tryz.t52.desc,size:=1,bytes:=8,zero:=(.raw .nilFunc),code:=none}
 | 53=>some {desc:=Tryz.t53.desc,size:=1,bytes:=8,zero:=(.raw .nilFunc),code:=none}
 | 55=>some {desc:=(.map 5 53),size:=1,bytes:=8,zero:=(.raw (.map none)),code:=none}
 | 56=>some {desc:=Tryz.t56.desc,size:=1,bytes:=8,zero:=(.raw .nilFunc),code:=none}
 | 57=>some {desc:=Tryz.t57.desc,size:=1,bytes:=8,zero:=(.raw .nilFunc),code:=none}
 | 58=>some {desc:=(.slice 5),size:=1,bytes:=24,zero:=(.raw (.slice none 0 0)),code:=(some (.slice (.int .u8)))}
 | 59=>some {desc:=Tryz.t59.desc,size:=8,bytes:=96,zero:=(.agg [1,1,1,1,1,1,1,1] [(.int .i64 0),(.str ByteArray.empty),(.str ByteArray.empty),(.int .u8 0),(.raw (.slice none 0 0)),(.int .i64 0),(.int .i64 0),(.int .i64 0)]),code:=(some Gz)}
 | 60=>some {desc:=Tryz.t59.desc,size:=8,bytes:=96,zero:=(.agg [1,1,1,1,1,1,1,1] [(.int .i64 0),(.str ByteArray.empty),(.str ByteArray.empty),(.int .u8 0),(.raw (.slice none 0 0)),(.int .i64 0),(.int .i64 0),(.int .i64 0)]),code:=(some Gz)}
 | 62=>some {desc:=Tryz.t62.desc,size:=1,bytes:=8,zero:=(.raw .nilFunc),code:=none}
 | 63=>some {desc:=Tryz.t63.desc,size:=1,bytes:=8,zero:=(.raw .nilFunc),code:=none}
 | 64=>some {desc:=Tryz.t64.desc,size:=1,bytes:=8,zero:=(.raw .nilFunc),code:=none}
 | 65=>some {desc:=(.map 3 3),size:=1,bytes:=8,zero:=(.raw (.map none)),code:=none}
 | 66=>some {desc:=Tryz.t66.desc,size:=1,bytes:=8,zero:=(.raw .nilFunc),code:=none}
 | 67=>some {desc:=Tryz.t66.desc,size:=1,bytes:=8,zero:=(.raw .nilFunc),code:=none}
 | 68=>some {desc:=Tryz.t68.desc,size:=1,bytes:=8,zero:=(.raw .nilFunc),code:=none}
 | 69=>some {desc:=(.array 64 4),size:=64,bytes:=64,zero:=(.arr 64 .bool (List.replicate 64 false)),code:=(some (.arr 64 .bool))}
 | 70=>some {desc:=Tryz.t70.desc,size:=1,bytes:=8,zero:=(.raw .nilFunc),code:=none}
 | 71=>some {desc:=Tryz.t71.desc,size:=1,bytes:=8,zero:=(.raw .nilFunc),code:=none}
 | 73=>some {desc:=Tryz.t73.desc,size:=1,bytes:=8,zero:=(.raw .nilFunc),code:=none}
 | 74=>some {desc:=(.slice 80),size:=1,bytes:=24,zero:=(.raw (.slice none 0 0)),code:=none}
 | 75=>some {desc:=Tryz.t75.desc,size:=3,bytes:=56,zero:=(.agg [1,1,1] [(.raw (.slice none 0 0)),(.int .u8 0),(.raw (.slice none 0 0))]),code:=none}
 | 76=>some {desc:=Tryz.t75.desc,size:=3,bytes:=56,zero:=(.agg [1,1,1] [(.raw (.slice none 0 0)),(.int .u8 0),(.raw (.slice none 0 0))]),code:=none}
 | 77=>some {desc:=Tryz.t77.desc,size:=1,bytes:=8,zero:=(.raw .nilFunc),code:=none}
 | 78=>some {desc:=Tryz.t77.desc,size:=1,bytes:=8,zero:=(.raw .nilFunc),code:=none}
 | 79=>some {desc:=Tryz.t79.desc,size:=6,bytes:=64,zero:=(.agg [1,1,1,1,1,1] [(.raw .nilFunc),(.raw .nilFunc),(.raw (.slice none 0 0)),(.int .i64 0),(.int .i64 0),(.int .i64 0)]),code:=none}
 | 80=>some {desc:=Tryz.t79.desc,size:=6,bytes:=64,zero:=(.agg [1,1,1,1,1,1] [(.raw .nilFunc),(.raw .nilFunc),(.raw (.slice none 0 0)),(.int .i64 0),(.int .i64 0),(.int .i64 0)]),code:=none}
 | 82=>some {desc:=Tryz.t82.desc,size:=1,bytes:=8,zero:=(.raw .nilFunc),code:=none}
 | 83=>some {desc:=Tryz.t83.desc,size:=1,bytes:=8,zero:=(.raw .nilFunc),code:=none}
 | 84=>some {desc:=Tryz.t84.desc,size:=1,bytes:=8,zero:=(.raw .nilFunc),code:=none}
 | 85=>some {desc:=(.int .u64),size:=1,bytes:=8,zero:=(.int .u64 0),code:=(some (.int .u64))}
 | 86=>some {desc:=(.slice 36),size:=1,bytes:=24,zero:=(.raw (.slice none 0 0)),code:=(some (.slice ar))}
 | 87=>some {desc:=(.slice 60),size:=1,bytes:=24,zero:=(.raw (.slice none 0 0)),code:=(some (.slice Gz))}
 | 88=>some {desc:=Tryz.t88.desc,size:=1,bytes:=8,zero:=(.raw .nilFunc),code:=none}
 | 89=>some {desc:=Tryz.t89.desc,size:=1,bytes:=8,zero:=(.raw .nilFunc),code:=none}
 | 90=>some {desc:=Tryz.t90.desc,size:=1,bytes:=8,zero:=(.raw .nilFunc),code:=none}
 | 91=>some {desc:=Tryz.t91.desc,size:=1,bytes:=8,zero:=(.raw .nilFunc),code:=none}
 | 92=>some {desc:=Tryz.t92.desc,size:=1,bytes:=8,zero:=(.raw .nilFunc),code:=none}
 | 93=>some {desc:=Tryz.t93.desc,size:=1,bytes:=8,zero:=(.raw .nilFunc),code:=none}
 | 94=>some {desc:=Tryz.t94.desc,size:=1,bytes:=8,zero:=(.raw .nilFunc),code:=none}
 | 95=>some {desc:=Tryz.t95.desc,size:=1,bytes:=8,zero:=(.raw .nilFunc),code:=none}
 | 96=>some {desc:=Tryz.t96.desc,size:=1,bytes:=8,zero:=(.raw .nilFunc),code:=none}
 | 97=>some {desc:=Tryz.t96.desc,size:=1,bytes:=8,zero:=(.raw .nilFunc),code:=none}
 | 98=>some {desc:=Tryz.t98.desc,size:=1,bytes:=8,zero:=(.raw .nilFunc),code:=none}
 | 99=>some {desc:=Tryz.t99.desc,size:=1,bytes:=8,zero:=(.raw .nilFunc),code:=none}
 | 100=>some {desc:=(.int .u32),size:=1,bytes:=4,zero:=(.int .u32 0),code:=(some (.int .u32))}
 | 101=>some {desc:=Tryz.t101.desc,size:=1,bytes:=8,zero:=(.raw .nilFunc),code:=none}
 | 102=>some {desc:=Tryz.t102.desc,size:=1,bytes:=8,zero:=(.raw .nilFunc),code:=none}
 | 103=>some {desc:=Tryz.t103.desc,size:=1,bytes:=8,zero:=(.raw .nilFunc),code:=none}
 | 104=>some {desc:=Tryz.t104.desc,size:=1,bytes:=8,zero:=(.raw .nilFunc),code:=none}
 | 105=>some {desc:=(.array 3 5),size:=3,bytes:=3,zero:=(.arr 3 (.int .u8) (List.replicate 3 (0:Int))),code:=(some (.arr 3 (.int .u8)))}
 | 106=>some {desc:=(.array 3 5),size:=3,bytes:=3,zero:=(.arr 3 (.int .u8) (List.replicate 3 (0:Int))),code:=(some (.arr 3 (.int .u8)))}
 | 107=>some {desc:=Tryz.t107.desc,size:=1,bytes:=8,zero:=(.raw .nilFunc),code:=none}
 | 108=>some {desc:=Tryz.t108.desc,size:=1,bytes:=8,zero:=(.raw .nilFunc),code:=none}
 | 109=>some {desc:=Tryz.t109.desc,size:=1,bytes:=8,zero:=(.raw .nilFunc),code:=none}
 | 110=>some {desc:=Tryz.t110.desc,size:=1,bytes:=8,zero:=(.raw .nilFunc),code:=none}
 | 112=>some {desc:=Tryz.t112.desc,size:=1,bytes:=8,zero:=(.raw .nilFunc),code:=none}
 | 113=>some {desc:=Tryz.t113.desc,size:=1,bytes:=8,zero:=(.raw .nilFunc),code:=none}
 | 114=>some {desc:=Tryz.t114.desc,size:=1,bytes:=8,zero:=(.raw .nilFunc),code:=none}
 | 115=>some {desc:=Tryz.t115.desc,size:=1,bytes:=8,zero:=(.raw .nilFunc),code:=none}
 | 116=>some {desc:=Tryz.t116.desc,size:=1,bytes:=8,zero:=(.raw .nilFunc),code:=none}
 | 117=>some {desc:=Tryz.t117.desc,size:=1,bytes:=8,zero:=(.raw .nilFunc),code:=none}
 | 118=>some {desc:=Tryz.t118.desc,size:=1,bytes:=8,zero:=(.raw .nilFunc),code:=none}
 | 119=>some {desc:=Tryz.t119.desc,size:=1,bytes:=8,zero:=(.raw .nilFunc),code:=none}
 | 120=>some {desc:=Tryz.t120.desc,size:=1,bytes:=8,zero:=(.raw .nilFunc),code:=none}
 | 121=>some {desc:=(.slice 76),size:=1,bytes:=24,zero:=(.raw (.slice none 0 0)),code:=none}
 | 122=>some {desc:=Tryz.t122.desc,size:=1,bytes:=8,zero:=(.raw .nilFunc),code:=none}
 | 123=>some {desc:=Tryz.t123.desc,size:=1,bytes:=8,zero:=(.raw .nilFunc),code:=none}
 | 124=>some {desc:=(.array 32 5),size:=32,bytes:=32,zero:=(.arr 32 (.int .u8) (List.replicate 32 (0:Int))),code:=(some (.arr 32 (.int .u8)))}
 | 125=>some {desc:=(.array 64 5),size:=64,bytes:=64,zero:=(.arr 64 (.int .u8) (List.replicate 64 (0:Int))),code:=(some (.arr 64 (.int .u8)))}
 | 126=>some {desc:=Tryz.t126.desc,size:=1,bytes:=8,zero:=(.raw .nilFunc),code:=none}
 | 127=>some {desc:=(.array 9 26),size:=9,bytes:=72,zero:=(.arr 9 (.int .u64) (List.replicate 9 (0:Int))),code:=(some (.arr 9 (.int .u64)))}
 | 128=>some {desc:=Tryz.t128.desc,size:=1,bytes:=8,zero:=(.raw .nilFunc),code:=none}
 | 129=>some {desc:=Tryz.t129.desc,size:=1,bytes:=8,zero:=(.raw .nilFunc),code:=none}
 | 130=>some {desc:=Tryz.t130.desc,size:=1,bytes:=8,zero:=(.raw .nilFunc),code:=none}
 | 131=>some {desc:=Tryz.t131.desc,size:=1,bytes:=8,zero:=(.raw .nilFunc),code:=none}
 | 132=>some {desc:=(.map 5 3),size:=1,bytes:=8,zero:=(.raw (.map none)),code:=none}
 | 133=>some {desc:=Tryz.t133.desc,size:=1,bytes:=8,zero:=(.raw .nilFunc),code:=none}
 | 134=>some {desc:=Tryz.t134.desc,size:=1,bytes:=8,zero:=(.raw .nilFunc),code:=none}
 | 135=>some {desc:=Tryz.t135.desc,size:=1,bytes:=8,zero:=(.raw .nilFunc),code:=none}
 | 136=>some {desc:=Tryz.t136.desc,size:=1,bytes:=8,zero:=(.raw .nilFunc),code:=none}
 | 137=>some {desc:=Tryz.t137.desc,size:=1,bytes:=8,zero:=(.raw .nilFunc),code:=none}
 | 138=>some {desc:=Tryz.t138.desc,size:=1,bytes:=8,zero:=(.raw .nilFunc),code:=none}
 | 139=>some {desc:=Tryz.t139.desc,size:=1,bytes:=8,zero:=(.raw .nilFunc),code:=none}
 | 140=>some {desc:=(.map 5 137),size:=1,bytes:=8,zero:=(.raw (.map none)),code:=none}
 | 142=>some {desc:=Tryz.t142.desc,size:=1,bytes:=8,zero:=(.raw .nilFunc),code:=none}
 | 143=>some {desc:=Tryz.t143.desc,size:=1,bytes:=8,zero:=(.raw .nilFunc),code:=none}
 | 144=>some {desc:=Tryz.t144.desc,size:=1,bytes:=8,zero:=(.raw .nilFunc),code:=none}
 | 145=>some {desc:=(.array 8 5),size:=8,bytes:=8,zero:=(.arr 8 (.int .u8) (List.replicate 8 (0:Int))),code:=(some (.arr 8 (.int .u8)))}
 | 146=>some {desc:=(.int .i8),size:=1,bytes:=1,zero:=(.int .i8 0),code:=(some (.int .i8))}
 | 147=>some {desc:=Tryz.t147.desc,size:=1,bytes:=8,zero:=(.raw .nilFunc),code:=none}
 | 148=>some {desc:=Tryz.t148.desc,size:=4,bytes:=40,zero:=(.agg [1,1,1,1] [(.raw (.pointer none)),(.raw (.pointer none)),(.raw (.pointer none)),(.str ByteArray.empty)]),code:=none}
 | 149=>some {desc:=Tryz.t148.desc,size:=4,bytes:=40,zero:=(.agg [1,1,1,1] [(.raw (.pointer none)),(.raw (.pointer none)),(.raw (.pointer none)),(.str ByteArray.empty)]),code:=none}
 | 150=>some {desc:=(.array 0 16),size:=0,bytes:=0,zero:=(.agg [] []),code:=none}
 | 153=>some {desc:=Tryz.t153.desc,size:=1,bytes:=8,zero:=(.raw .nilFunc),code:=none}
 | 154=>some {desc:=(.int .u8),size:=1,bytes:=1,zero:=(.int .u8 0),code:=(some (.int .u8))}
 | 155=>some {desc:=(.int .u8),size:=1,bytes:=1,zero:=(.int .u8 0),code:=(some (.int .u8))}
 | 156=>some {desc:=Tryz.t156.desc,size:=1,bytes:=8,zero:=(.raw .nilFunc),code:=none}
 | 157=>some {desc:=(.pointer 5),size:=1,bytes:=8,zero:=(.raw (.pointer none)),code:=none}
 | 158=>some {desc:=(.int .i32),size:=1,bytes:=4,zero:=(.int .i32 0),code:=(some (.int .i32))}
 | 159=>some {desc:=(.int .i32),size:=1,bytes:=4,zero:=(.int .i32 0),code:=(some (.int .i32))}
 | 160=>some {desc:=Tryz.t160.desc,size:=11,bytes:=48,zero:=(.agg [1,1,1,1,1,1,1,1,1,1,1] [(.int .u64 0),(.int .u64 0),(.int .u32 0),(.int .u8 0),(.int .u8 0),(.int .u8 0),(.int .u8 0),(.raw .nilFunc),(.raw (.pointer none)),(.int .i32 0),(.int .i32 0)]),code:=none}
 | 161=>some {desc:=Tryz.t160.desc,size:=11,bytes:=48,zero:=(.agg [1,1,1,1,1,1,1,1,1,1,1] [(.int .u64 0),(.int .u64 0),(.int .u32 0),(.int .u8 0),(.int .u8 0),(.int .u8 0),(.int .u8 0),(.raw .nilFunc),(.raw (.pointer none)),(.int .i32 0),(.int .i32 0)]),code:=none}
 | _=>none
theorem OQ:∀ t d,ty t=some d→d.ok Tryz.prog t:=by
 intro t d h
 unfold ty at h
 split at h
 ·cases h;exact bG.aE (i:=Tryz.t1) Tryz.underlying1 Tryz.type1 rfl (by kernel_rfl)
 ·cases h;exact bG.aE (i:=Tryz.t2) Tryz.underlying2 Tryz.type2 rfl (by kernel_rfl)
 ·cases h;exact bG.aE (i:=Tryz.t3) Tryz.underlying3 Tryz.type3 rfl (by kernel_rfl)
 ·cases h;exact bG.aE (i:=Tryz.t4) Tryz.underlying4 Tryz.type4 rfl (by kernel_rfl)
 ·cases h;exact bG.aE (i:=Tryz.t5) Tryz.underlying5 Tryz.type5 rfl (by kernel_rfl)
 ·cases h;exact bG.aE (i:=Tryz.t6) Tryz.underlying6 Tryz.type6 rfl (by kernel_rfl)
 ·cases h;exact bG.aE (i:=Tryz.t7) Tryz.underlying7 Tryz.type7 rfl (by kernel_rfl)
 ·cases h;exact bG.aE (i:=Tryz.t8) Tryz.underlying8 Tryz.type8 rfl (by kernel_rfl)
 ·cases h;exact bG.aE (i:=Tryz.t9) Tryz.underlying9 Tryz.type9 rfl (by kernel_rfl)
 ·cases h;exact bG.aE (i:=Tryz.t10) Tryz.underlying10 Tryz.type10 rfl (by kernel_rfl)
 ·cases h;exact bG.aE (i:=Tryz.t11) Tryz.underlying11 Tryz.type11 rfl (by kernel_rfl)
 ·cases h;exact bG.aE (i:=Tryz.t12) Tryz.underlying12 Tryz.type12 rfl (by kernel_rfl)
 ·cases h;exact bG.aE (i:=Tryz.t13) Tryz.underlying13 Tryz.type13 rfl (by kernel_rfl)
 ·cases h;exact bG.aE (i:=Tryz.t14) Tryz.underlying14 Tryz.type14 rfl (by kernel_rfl)
 ·cases h;exact bG.aE (i:=Tryz.t15) Tryz.underlying15 Tryz.type15 rfl (by kernel_rfl)
 ·cases h;exact bG.aE (i:=Tryz.t16) Tryz.underlying16 Tryz.type16 rfl (by kernel_rfl)
 ·cases h;exact bG.aE (i:=Tryz.t17) Tryz.underlying17 Tryz.type17 rfl (by kernel_rfl)
 ·cases h;exact bG.aE (i:=Tryz.t18) Tryz.underlying18 Tryz.type18 rfl (by kernel_rfl)
 ·cases h;exact bG.aE (i:=Tryz.t19) Tryz.underlying19 Tryz.type19 rfl (by kernel_rfl)
 ·cases h;exact bG.aE (i:=Tryz.t20) Tryz.underlying20 Tryz.type20 rfl (by kernel_rfl)
 ·cases h;exact bG.aE (i:=Tryz.t21) Tryz.underlying21 Tryz.type21 rfl (by kernel_rfl)
 ·cases h;exact bG.aE (i:=Tryz.t22) Tryz.underlying22 Tryz.type22 rfl (by kernel_rfl)
 ·cases h;exact bG.aE (i:=Tryz.t23) Tryz.underlying23 Tryz.type23 rfl (by kernel_rfl)
 ·cases h;exact bG.aE (i:=Tryz.t24) Tryz.underlying24 Tryz.type24 rfl (by kernel_rfl)
 ·cases h;exact bG.aE (i:=Tryz.t25) Tryz.underlying25 Tryz.type25 rfl (by kernel_rfl)
 ·cases h;exact bG.aE (i:=Tryz.t26) Tryz.underlying26 Tryz.type26 rfl (by kernel_rfl)
 ·cases h;exact bG.aE (i:=Tryz.t27) Tryz.underlying27 Tryz.type27 rfl (by kernel_rfl)
 ·cases h;exact bG.aE (i:=Tryz.t28) Tryz.underlying28 Tryz.type28 rfl (by kernel_rfl)
 ·cases h;exact bG.aE (i:=Tryz.t30) Tryz.underlying30 Tryz.type30 rfl (by kernel_rfl)
 ·cases h;exact bG.aE (i:=Tryz.t31) Tryz.underlying31 Tryz.type31 rfl (by kernel_rfl)
 ·cases h;exact bG.aE (i:=Tryz.t32) Tryz.underlying32 Tryz.type32 rfl (by kernel_rfl)
 ·cases h;exact bG.aE (i:=Tryz.t33) Tryz.underlying33 Tryz.type33 rfl (by kernel_rfl)
 ·cases h;exact bG.aE (i:=Tryz.t34) Tryz.underlying34 Tryz.type34 rfl (by kernel_rfl)
 ·cases h;exact bG.aE (i:=Tryz.t35) Tryz.underlying35 Tryz.type35 rfl (by kernel_rfl)
 ·cases h;exact bG.aE (i:=Tryz.t36) Tryz.underlying36 Tryz.type36 rfl (by kernel_rfl)
 ·cases h;exact bG.aE (i:=Tryz.t37) Tryz.underlying37 Tryz.type37 rfl (by kernel_rfl)
 ·cases h;exact bG.aE (i:=Tryz.t38) Tryz.underlying38 Tryz.type38 rfl (by kernel_rfl)
 ·cases h;exact bG.aE (i:=Tryz.t39) Tryz.underlying39 Tryz.type39 rfl (by kernel_rfl)
 ·cases h;exact bG.aE (i:=Tryz.t40) Tryz.underlying40 Tryz.type40 rfl (by kernel_rfl)
 ·cases h;exact bG.aE (i:=Tryz.t41) Tryz.underlying41 Tryz.type41 rfl (by kernel_rfl)
 ·cases h;exact bG.aE (i:=Tryz.t42) Tryz.underlying42 Tryz.type42 rfl (by kernel_rfl)
 ·cases h;exact bG.aE (i:=Tryz.t43) Tryz.underlying43 Tryz.type43 rfl (by kernel_rfl)
 ·cases h;exact bG.aE (i:=Tryz.t44) Tryz.underlying44 Tryz.type44 rfl (by kernel_rfl)
 ·cases h;exact bG.aE (i:=Tryz.t45) Tryz.underlying45 Tryz.type45 rfl (by kernel_rfl)
 ·cases h;exact bG.aE (i:=Tryz.t46) Tryz.underlying46 Tryz.type46 rfl (by kernel_rfl)
 ·cases h;exact bG.aE (i:=Tryz.t47) Tryz.underlying47 Tryz.type47 rfl (by kernel_rfl)
 ·cases h;exact bG.aE (i:=Tryz.t48) Tryz.underlying48 Tryz.type48 rfl (by kernel_rfl)
 ·cases h;exact bG.aE (i:=Tryz.t49) Tryz.underlying49 Tryz.type49 rfl (by kernel_rfl)
 ·cases h;exact bG.aE (i:=Tryz.t50) Tryz.underlying50 Tryz.type50 rfl (by kernel_rfl)
 ·cases h;exact bG.aE (i:=Tryz.t51) Tryz.underlying51 Tryz.type51 rfl (by kernel_rfl)
 ·cases h;exact bG.aE (i:=Tryz.t52) Tryz.underlying52 Tryz.type52 rfl (by kernel_rfl)
 ·cases h;exact bG.aE (i:=Tryz.t53) Tryz.underlying53 Tryz.type53 rfl (by kernel_rfl)
 ·cases h;exact bG.aE (i:=Tryz.t55) Tryz.underlying55 Tryz.type55 rfl (by kernel_rfl)
 ·cases h;exact bG.aE (i:=Tryz.t56) Tryz.underlying56 Tryz.type56 rfl (by kernel_rfl)
 ·cases h;exact bG.aE (i:=Tryz.t57) Tryz.underlying57 Tryz.type57 rfl (by kernel_rfl)
 ·cases h;exact bG.aE (i:=Tryz.t58) Tryz.underlying58 Tryz.type58 rfl (by kernel_rfl)
 ·cases h;exact bG.aE (i:=Tryz.t59) Tryz.underlying59 Tryz.type59 rfl (by kernel_rfl)
 ·cases h;exact bG.aE (i:=Tryz.t60) Tryz.underlying60 Tryz.type60 rfl (by kernel_rfl)
 ·cases h;exact bG.aE (i:=Tryz.t62) Tryz.underlying62 Tryz.type62 rfl (by kernel_rfl)
 ·cases h;exact bG.aE (i:=Tryz.t63) Tryz.underlying63 Tryz.type63 rfl (by kernel_rfl)
 ·cases h;exact bG.aE (i:=Tryz.t64) Tryz.underlying64 Tryz.type64 rfl (by kernel_rfl)
 ·cases h;exact bG.aE (i:=Tryz.t65) Tryz.underlying65 Tryz.type65 rfl (by kernel_rfl)
 ·cases h;exact bG.aE (i:=Tryz.t66) Tryz.underlying66 Tryz.type66 rfl (by kernel_rfl)
 ·cases h;exact bG.aE (i:=Tryz.t67) Tryz.underlying67 Tryz.type67 rfl (by kernel_rfl)
 ·cases h;exact bG.aE (i:=Tryz.t68) Tryz.underlying68 Tryz.type68 rfl (by kernel_rfl)
 ·cases h;exact bG.aE (i:=Tryz.t69) Tryz.underlying69 Tryz.type69 rfl (by kernel_rfl)
 ·cases h;exact bG.aE (i:=Tryz.t70) Tryz.underlying70 Tryz.type70 rfl (by kernel_rfl)
 ·cases h;exact bG.aE (i:=Tryz.t71) Tryz.underlying71 Tryz.type71 rfl (by kernel_rfl)
 ·cases h;exact bG.aE (i:=Tryz.t73) Tryz.underlying73 Tryz.type73 rfl (by kernel_rfl)
 ·cases h;exact bG.aE (i:=Tryz.t74) Tryz.underlying74 Tryz.type74 rfl (by kernel_rfl)
 ·cases h;exact bG.aE (i:=Tryz.t75) Tryz.underlying75 Tryz.type75 rfl (by kernel_rfl)
 ·cases h;exact bG.aE (i:=Tryz.t76) Tryz.underlying76 Tryz.type76 rfl (by kernel_rfl)
 ·cases h;exact bG.aE (i:=Tryz.t77) Tryz.underlying77 Tryz.type77 rfl (by kernel_rfl)
 ·cases h;exact bG.aE (i:=Tryz.t78) Tryz.underlying78 Tryz.type78 rfl (by kernel_rfl)
 ·cases h;exact bG.aE (i:=Tryz.t79) Tryz.underlying79 Tryz.type79 rfl (by kernel_rfl)
 ·cases h;exact bG.aE (i:=Tryz.t80) Tryz.underlying80 Tryz.type80 rfl (by kernel_rfl)
 ·cases h;exact bG.aE (i:=Tryz.t82) Tryz.underlying82 Tryz.type82 rfl (by kernel_rfl)
 ·cases h;exact bG.aE (i:=Tryz.t83) Tryz.underlying83 Tryz.type83 rfl (by kernel_rfl)
 ·cases h;exact bG.aE (i:=Tryz.t84) Tryz.underlying84 Tryz.type84 rfl (by kernel_rfl)
 ·cases h;exact bG.aE (i:=Tryz.t85) Tryz.underlying85 Tryz.type85 rfl (by kernel_rfl)
 ·cases h;exact bG.aE (i:=Tryz.t86) Tryz.underlying86 Tryz.type86 rfl (by kernel_rfl)
 ·cases h;exact bG.aE (i:=Tryz.t87) Tryz.underlying87 Tryz.type87 rfl (by kernel_rfl)
 ·cases h;exact bG.aE (i:=Tryz.t88) Tryz.underlying88 Tryz.type88 rfl (by kernel_rfl)
 ·cases h;exact bG.aE (i:=Tryz.t89) Tryz.underlying89 Tryz.type89 rfl (by kernel_rfl)
 ·cases h;exact bG.aE (i:=Tryz.t90) Tryz.underlying90 Tryz.type90 rfl (by kernel_rfl)
 ·cases h;exact bG.aE (i:=Tryz.t91) Tryz.underlying91 Tryz.type91 rfl (by kernel_rfl)
 ·cases h;exact bG.aE (i:=Tryz.t92) Tryz.underlying92 Tryz.type92 rfl (by kernel_rfl)
 ·cases h;exact bG.aE (i:=Tryz.t93) Tryz.underlying93 Tryz.type93 rfl (by kernel_rfl)
 ·cases h;exact bG.aE (i:=Tryz.t94) Tryz.underlying94 Tryz.type94 rfl (by kernel_rfl)
 ·cases h;exact bG.aE (i:=Tryz.t95) Tryz.underlying95 Tryz.type95 rfl (by kernel_rfl)
 ·cases h;exact bG.aE (i:=Tryz.t96) Tryz.underlying96 Tryz.type96 rfl (by kernel_rfl)
 ·cases h;exact bG.aE (i:=Tryz.t97) Tryz.underlying97 Tryz.type97 rfl (by kernel_rfl)
 ·cases h;exact bG.aE (i:=Tryz.t98) Tryz.underlying98 Tryz.type98 rfl (by kernel_rfl)
 ·cases h;exact bG.aE (i:=Tryz.t99) Tryz.underlying99 Tryz.type99 rfl (by kernel_rfl)
 ·cases h;exact bG.aE (i:=Tryz.t100) Tryz.underlying100 Tryz.type100 rfl (by kernel_rfl)
 ·cases h;exact bG.aE (i:=Tryz.t101) Tryz.underlying101 Tryz.type101 rfl (by kernel_rfl)
 ·cases h;exact bG.aE (i:=Tryz.t102) Tryz.underlying102 Tryz.type102 rfl (by kernel_rfl)
 ·cases h;exact bG.aE (i:=Tryz.t103) Tryz.underlying103 Tryz.type103 rfl (by kernel_rfl)
 ·cases h;exact bG.aE (i:=Tryz.t104) Tryz.underlying104 Tryz.type104 rfl (by kernel_rfl)
 ·cases h;exact bG.aE (i:=Tryz.t105) Tryz.underlying105 Tryz.type105 rfl (by kernel_rfl)
 ·cases h;exact bG.aE (i:=Tryz.t106) Tryz.underlying106 Tryz.type106 rfl (by kernel_rfl)
 ·cases h;exact bG.aE (i:=Tryz.t107) Tryz.underlying107 Tryz.type107 rfl (by kernel_rfl)
 ·cases h;exact bG.aE (i:=Tryz.t108) Tryz.underlying108 Tryz.type108 rfl (by kernel_rfl)
 ·cases h;exact bG.aE (i:=Tryz.t109) Tryz.underlying109 Tryz.type109 rfl (by kernel_rfl)
 ·cases h;exact bG.aE (i:=Tryz.t110) Tryz.underlying110 Tryz.type110 rfl (by kernel_rfl)
 ·cases h;exact bG.aE (i:=Tryz.t112) Tryz.underlying112 Tryz.type112 rfl (by kernel_rfl)
 ·cases h;exact bG.aE (i:=Tryz.t113) Tryz.underlying113 Tryz.type113 rfl (by kernel_rfl)
 ·cases h;exact bG.aE (i:=Tryz.t114) Tryz.underlying114 Tryz.type114 rfl (by kernel_rfl)
 ·cases h;exact bG.aE (i:=Tryz.t115) Tryz.underlying115 Tryz.type115 rfl (by kernel_rfl)
 ·cases h;exact bG.aE (i:=Tryz.t116) Tryz.underlying116 Tryz.type116 rfl (by kernel_rfl)
 ·cases h;exact bG.aE (i:=Tryz.t117) Tryz.underlying117 Tryz.type117 rfl (by kernel_rfl)
 ·cases h;exact bG.aE (i:=Tryz.t118) Tryz.underlying118 Tryz.type118 rfl (by kernel_rfl)
 ·cases h;exact bG.aE (i:=Tryz.t119) Tryz.underlying119 Tryz.type119 rfl (by kernel_rfl)
 ·cases h;exact bG.aE (i:=Tryz.t120) Tryz.underlying120 Tryz.type120 rfl (by kernel_rfl)
 ·cases h;exact bG.aE (i:=Tryz.t121) Tryz.underlying121 Tryz.type121 rfl (by kernel_rfl)
 ·cases h;exact bG.aE (i:=Tryz.t122) Tryz.underlying122 Tryz.type122 rfl (by kernel_rfl)
 ·cases h;exact bG.aE (i:=Tryz.t123) Tryz.underlying123 Tryz.type123 rfl (by kernel_rfl)
 ·cases h;exact bG.aE (i:=Tryz.t124) Tryz.underlying124 Tryz.type124 rfl (by kernel_rfl)
 ·cases h;exact bG.aE (i:=Tryz.t125) Tryz.underlying125 Tryz.type125 rfl (by kernel_rfl)
 ·cases h;exact bG.aE (i:=Tryz.t126) Tryz.underlying126 Tryz.type126 rfl (by kernel_rfl)
 ·cases h;exact bG.aE (i:=Tryz.t127) Tryz.underlying127 Tryz.type127 rfl (by kernel_rfl)
 ·cases h;exact bG.aE (i:=Tryz.t128) Tryz.underlying128 Tryz.type128 rfl (by kernel_rfl)
 ·cases h;exact bG.aE (i:=Tryz.t129) Tryz.underlying129 Tryz.type129 rfl (by kernel_rfl)
 ·cases h;exact bG.aE (i:=Tryz.t130) Tryz.underlying130 Tryz.type130 rfl (by kernel_rfl)
 ·cases h;exact bG.aE (i:=Tryz.t131) Tryz.underlying131 Tryz.type131 rfl (by kernel_rfl)
 ·cases h;exact bG.aE (i:=Tryz.t132) Tryz.underlying132 Tryz.type132 rfl (by kernel_rfl)
 ·cases h;exact bG.aE (i:=Tryz.t133) Tryz.underlying133 Tryz.type133 rfl (by kernel_rfl)
 ·cases h;exact bG.aE (i:=Tryz.t134) Tryz.underlying134 Tryz.type134 rfl (by kernel_rfl)
 ·cases h;exact bG.aE (i:=Tryz.t135) Tryz.underlying135 Tryz.type135 rfl (by kernel_rfl)
 ·cases h;exact bG.aE (i:=Tryz.t136) Tryz.underlying136 Tryz.type136 rfl (by kernel_rfl)
 ·cases h;exact bG.aE (i:=Tryz.t137) Tryz.underlying137 Tryz.type137 rfl (by kernel_rfl)
 ·cases h;exact bG.aE (i:=Tryz.t138) Tryz.underlying138 Tryz.type138 rfl (by kernel_rfl)
 ·cases h;exact bG.aE (i:=Tryz.t139) Tryz.underlying139 Tryz.type139 rfl (by kernel_rfl)
 ·cases h;exact bG.aE (i:=Tryz.t140) Tryz.underlying140 Tryz.type140 rfl (by kernel_rfl)
 ·cases h;exact bG.aE (i:=Tryz.t142) Tryz.underlying142 Tryz.type142 rfl (by kernel_rfl)
 ·cases h;exact bG.aE (i:=Tryz.t143) Tryz.underlying143 Tryz.type143 rfl (by kernel_rfl)
 ·cases h;exact bG.aE (i:=Tryz.t144) Tryz.underlying144 Tryz.type144 rfl (by kernel_rfl)
 ·cases h;exact bG.aE (i:=Tryz.t145) Tryz.underlying145 Tryz.type145 rfl (by kernel_rfl)
 ·cases h;exact bG.aE (i:=Tryz.t146) Tryz.underlying146 Tryz.type146 rfl (by kernel_rfl)
 ·cases h;exact bG.aE (i:=Tryz.t147) Tryz.underlying147 Tryz.type147 rfl (by kernel_rfl)
 ·cases h;exact bG.aE (i:=Tryz.t148) Tryz.underlying148 Tryz.type148 rfl (by kernel_rfl)
 ·cases h;exact bG.aE (i:=Tryz.t149) Tryz.underlying149 Tryz.type149 rfl (by kernel_rfl)
 ·cases h;exact bG.aE (i:=Tryz.t150) Tryz.underlying150 Tryz.type150 rfl (by kernel_rfl)
 ·cases h;exact bG.aE (i:=Tryz.t153) Tryz.underlying153 Tryz.type153 rfl (by kernel_rfl)
 ·cases h;exact bG.aE (i:=Tryz.t154) Tryz.underlying154 Tryz.type154 rfl (by kernel_rfl)
 ·cases h;exact bG.aE (i:=Tryz.t155) Tryz.underlying155 Tryz.type155 rfl (by kernel_rfl)
 ·cases h;exact bG.aE (i:=Tryz.t156) Tryz.underlying156 Tryz.type156 rfl (by kernel_rfl)
 ·cases h;exact bG.aE (i:=Tryz.t157) Tryz.underlying157 Tryz.type157 rfl (by kernel_rfl)
 ·cases h;exact bG.aE (i:=Tryz.t158) Tryz.underlying158 Tryz.type158 rfl (by kernel_rfl)
 ·cases h;exact bG.aE (i:=Tryz.t159) Tryz.underlying159 Tryz.type159 rfl (by kernel_rfl)
 ·cases h;exact bG.aE (i:=Tryz.t160) Tryz.underlying160 Tryz.type160 rfl (by kernel_rfl)
 ·cases h;exact bG.aE (i:=Tryz.t161) Tryz.underlying161 Tryz.type161 rfl (by kernel_rfl)
 ·cases h
noncomputable def fns:FuncId→Option Func
 | 4=>some Tryz.f4
 | 5=>some Tryz.f5
 | 6=>some Tryz.f6
 | 7=>some Tryz.f7
 | 8=>some Tryz.f8
 | 11=>some Tryz.f11
 | 12=>some Tryz.f12
 | 13=>some Tryz.f13
 | 14=>some Tryz.f14
 | 15=>some Tryz.f15
 | 16=>some Tryz.f16
 | 17=>some Tryz.f17
 | 18=>some Tryz.f18
 | 19=>some Tryz.f19
 | 20=>some Tryz.f20
 | 21=>some Tryz.f21
 | 25=>some Tryz.f25
 | 26=>some Tryz.f26
 | 27=>some Tryz.f27
 | 28=>some Tryz.f28
 | 29=>some Tryz.f29
 | 30=>some Tryz.f30
 | 31=>some Tryz.f31
 | 32=>some Tryz.f32
 | 33=>some Tryz.f33
 | 34=>some Tryz.f34
 | 35=>some Tryz.f35
 | 36=>some Tryz.f36
 | 37=>some Tryz.f37
 | 38=>some Tryz.f38
 | 39=>some Tryz.f39
 | 40=>some Tryz.f40
 | 41=>some Tryz.f41
 | 42=>some Tryz.f42
 | 43=>some Tryz.f43
 | 44=>some Tryz.f44
 | 45=>some Tryz.f45
 | 46=>some Tryz.f46
 | 47=>some Tryz.f47
 | 48=>some Tryz.f48
 | 49=>some Tryz.f49
 | 50=>some Tryz.f50
 | 51=>some Tryz.f51
 | 52=>some Tryz.f52
 | 53=>some Tryz.f53
 | 54=>some Tryz.f54
 | 55=>some Tryz.f55
 | 56=>some Tryz.f56
 | 57=>some Tryz.f57
 | 58=>some Tryz.f58
 | 59=>some Tryz.f59
 | 60=>some Tryz.f60
 | 61=>some Tryz.f61
 | 62=>some Tryz.f62
 | 63=>some Tryz.f63
 | 64=>some Tryz.f64
 | 65=>some Tryz.f65
 | 66=>some Tryz.f66
 | 67=>some Tryz.f67
 | 68=>some Tryz.f68
 | 69=>some Tryz.f69
 | 70=>some Tryz.f70
 | 71=>some Tryz.f71
 | 72=>some Tryz.f72
 | 73=>some Tryz.f73
 | 74=>some Tryz.f74
 | 75=>some Tryz.f75
 | 76=>some Tryz.f76
 | 77=>some Tryz.f77
 | 79=>some Tryz.f79
 | 80=>some Tryz.f80
 | 81=>some Tryz.f81
 | 82=>some Tryz.f82
 | 83=>some Tryz.f83
 | 84=>some Tryz.f84
 | 85=>some Tryz.f85
 | 86=>some Tryz.f86
 | 87=>some Tryz.f87
 | 88=>some Tryz.f88
 | 89=>some Tryz.f89
 | 90=>some Tryz.f90
 | 91=>some Tryz.f91
 | 92=>some Tryz.f92
 | 93=>some Tryz.f93
 | 94=>some Tryz.f94
 | 95=>some Tryz.f95
 | 96=>some Tryz.f96
 | 97=>some Tryz.f97
 | 98=>some Tryz.f98
 | 99=>some Tryz.f99
 | 100=>some Tryz.f100
 | 101=>some Tryz.f101
 | 102=>some Tryz.f102
 | 103=>some Tryz.f103
 | 104=>some Tryz.f104
 | 105=>some Tryz.f105
 | 106=>some Tryz.f106
 | 107=>some Tryz.f107
 | 108=>some Tryz.f108
 | 109=>some Tryz.f109
 | 110=>some Tryz.f110
 | 111=>some Tryz.f111
 | 112=>some Tryz.f112
 | 113=>some Tryz.f113
 | 114=>some Tryz.f114
 | 115=>some Tryz.f115
 | 116=>some Tryz.f116
 | 117=>some Tryz.f117
 | 118=>some Tryz.f118
 | 119=>some Tryz.f119
 | 120=>some Tryz.f120
 | 121=>some Tryz.f121
 | 122=>some Tryz.f122
 | 123=>some Tryz.f123
 | 124=>some Tryz.f124
 | 125=>some Tryz.f125
 | 126=>some Tryz.f126
 | 127=>some Tryz.f127
 | 128=>some Tryz.f128
 | 129=>some Tryz.f129
 | 130=>some Tryz.f130
 | 131=>some Tryz.f131
 | 132=>some Tryz.f132
 | 133=>some Tryz.f133
 | 134=>some Tryz.f134
 | 135=>some Tryz.f135
 | 136=>some Tryz.f136
 | 137=>some Tryz.f137
 | 138=>some Tryz.f138
 | 139=>some Tryz.f139
 | 140=>some Tryz.f140
 | 141=>some Tryz.f141
 | 142=>some Tryz.f142
 | 143=>some Tryz.f143
 | 144=>some Tryz.f144
 | 145=>some Tryz.f145
 | 146=>some Tryz.f146
 | 147=>some Tryz.f147
 | 148=>some Tryz.f148
 | 149=>some Tryz.f149
 | 150=>some Tryz.f150
 | 151=>some Tryz.f151
 | 152=>some Tryz.f152
 | 153=>some Tryz.f153
 | 154=>some Tryz.f154
 | 155=>some Tryz.f155
 | 156=>some Tryz.f156
 | 157=>some Tryz.f157
 | 158=>some Tryz.f158
 | 159=>some Tryz.f159
 | 160=>some Tryz.f160
 | 161=>some Tryz.f161
 | _=>none
theorem Mj:∀ f fn,fns f=some fn→Tryz.prog.funcs[f]?=some fn∧(fn.name == "runtime.NumGoroutine")=false:=by
 intro f fn h
 unfold fns at h
 split at h
 ·cases h;exact ⟨Tryz.func4,by kernel_rfl⟩
 ·cases h;exact ⟨Tryz.func5,by kernel_rfl⟩
 ·cases h;exact ⟨Tryz.func6,by kernel_rfl⟩
 ·cases h;exact ⟨Tryz.func7,by kernel_rfl⟩
 ·cases h;exact ⟨Tryz.func8,by kernel_rfl⟩
 ·cases h;exact ⟨Tryz.func11,by kernel_rfl⟩
 ·cases h;exact ⟨Tryz.func12,by kernel_rfl⟩
 ·cases h;exact ⟨Tryz.func13,by kernel_rfl⟩
 ·cases h;exact ⟨Tryz.func14,by kernel_rfl⟩
 ·cases h;exact ⟨Tryz.func15,by kernel_rfl⟩
 ·cases h;exact ⟨Tryz.func16,by kernel_rfl⟩
 ·cases h;exact ⟨Tryz.func17,by kernel_rfl⟩
 ·cases h;exact ⟨Tryz.func18,by kernel_rfl⟩
 ·cases h;exact ⟨Tryz.func19,by kernel_rfl⟩
 ·cases h;exact ⟨Tryz.func20,by kernel_rfl⟩
 ·cases h;exact ⟨Tryz.func21,by kernel_rfl⟩
 ·cases h;exact ⟨Tryz.func25,by kernel_rfl⟩
 ·cases h;exact ⟨Tryz.func26,by kernel_rfl⟩
 ·cases h;exact ⟨Tryz.func27,by kernel_rfl⟩
 ·cases h;exact ⟨Tryz.func28,by kernel_rfl⟩
 ·cases h;exact ⟨Tryz.func29,by kernel_rfl⟩
 ·cases h;exact ⟨Tryz.func30,by kernel_rfl⟩
 ·cases h;exact ⟨Tryz.func31,by kernel_rfl⟩
 ·cases h;exact ⟨Tryz.func32,by kernel_rfl⟩
 ·cases h;exact ⟨Tryz.func33,by kernel_rfl⟩
 ·cases h;exact ⟨Tryz.func34,by kernel_rfl⟩
 ·cases h;exact ⟨Tryz.func35,by kernel_rfl⟩
 ·cases h;exact ⟨Tryz.func36,by kernel_rfl⟩
 ·cases h;exact ⟨Tryz.func37,by kernel_rfl⟩
 ·cases h;exact ⟨Tryz.func38,by kernel_rfl⟩
 ·cases h;exact ⟨Tryz.func39,by kernel_rfl⟩
 ·cases h;exact ⟨Tryz.func40,by kernel_rfl⟩
 ·cases h;exact ⟨Tryz.func41,by kernel_rfl⟩
 ·cases h;exact ⟨Tryz.func42,by kernel_rfl⟩
 ·cases h;exact ⟨Tryz.func43,by kernel_rfl⟩
 ·cases h;exact ⟨Tryz.func44,by kernel_rfl⟩
 ·cases h;exact ⟨Tryz.func45,by kernel_rfl⟩
 ·cases h;exact ⟨Tryz.func46,by kernel_rfl⟩
 ·cases h;exact ⟨Tryz.func47,by kernel_rfl⟩
 ·cases h;exact ⟨Tryz.func48,by kernel_rfl⟩
 ·cases h;exact ⟨Tryz.func49,by kernel_rfl⟩
 ·cases h;exact ⟨Tryz.func50,by kernel_rfl⟩
 ·cases h;exact ⟨Tryz.func51,by kernel_rfl⟩
 ·cases h;exact ⟨Tryz.func52,by kernel_rfl⟩
 ·cases h;exact ⟨Tryz.func53,by kernel_rfl⟩
 ·cases h;exact ⟨Tryz.func54,by kernel_rfl⟩
 ·cases h;exact ⟨Tryz.func55,by kernel_rfl⟩
 ·cases h;exact ⟨Tryz.func56,by kernel_rfl⟩
 ·cases h;exact ⟨Tryz.func57,by kernel_rfl⟩
 ·cases h;exact ⟨Tryz.func58,by kernel_rfl⟩
 ·cases h;exact ⟨Tryz.func59,by kernel_rfl⟩
 ·cases h;exact ⟨Tryz.func60,by kernel_rfl⟩
 ·cases h;exact ⟨Tryz.func61,by kernel_rfl⟩
 ·cases h;exact ⟨Tryz.func62,by kernel_rfl⟩
 ·cases h;exact ⟨Tryz.func63,by kernel_rfl⟩
 ·cases h;exact ⟨Tryz.func64,by kernel_rfl⟩
 ·cases h;exact ⟨Tryz.func65,by kernel_rfl⟩
 ·cases h;exact ⟨Tryz.func66,by kernel_rfl⟩
 ·cases h;exact ⟨Tryz.func67,by kernel_rfl⟩
 ·cases h;exact ⟨Tryz.func68,by kernel_rfl⟩
 ·cases h;exact ⟨Tryz.func69,by kernel_rfl⟩
 ·cases h;exact ⟨Tryz.func70,by kernel_rfl⟩
 ·cases h;exact ⟨Tryz.func71,by kernel_rfl⟩
 ·cases h;exact ⟨Tryz.func72,by kernel_rfl⟩
 ·cases h;exact ⟨Tryz.func73,by kernel_rfl⟩
 ·cases h;exact ⟨Tryz.func74,by kernel_rfl⟩
 ·cases h;exact ⟨Tryz.func75,by kernel_rfl⟩
 ·cases h;exact ⟨Tryz.func76,by kernel_rfl⟩
 ·cases h;exact ⟨Tryz.func77,by kernel_rfl⟩
 ·cases h;exact ⟨Tryz.func79,by kernel_rfl⟩
 ·cases h;exact ⟨Tryz.func80,by kernel_rfl⟩
 ·cases h;exact ⟨Tryz.func81,by kernel_rfl⟩
 ·cases h;exact ⟨Tryz.func82,by kernel_rfl⟩
 ·cases h;exact ⟨Tryz.func83,by kernel_rfl⟩
 ·cases h;exact ⟨Tryz.func84,by kernel_rfl⟩
 ·cases h;exact ⟨Tryz.func85,by kernel_rfl⟩
 ·cases h;exact ⟨Tryz.func86,by kernel_rfl⟩
 ·cases h;exact ⟨Tryz.func87,by kernel_rfl⟩
 ·cases h;exact ⟨Tryz.func88,by kernel_rfl⟩
 ·cases h;exact ⟨Tryz.func89,by kernel_rfl⟩
 ·cases h;exact ⟨Tryz.func90,by kernel_rfl⟩
 ·cases h;exact ⟨Tryz.func91,by kernel_rfl⟩
 ·cases h;exact ⟨Tryz.func92,by kernel_rfl⟩
 ·cases h;exact ⟨Tryz.func93,by kernel_rfl⟩
 ·cases h;exact ⟨Tryz.func94,by kernel_rfl⟩
 ·cases h;exact ⟨Tryz.func95,by kernel_rfl⟩
 ·cases h;exact ⟨Tryz.func96,by kernel_rfl⟩
 ·cases h;exact ⟨Tryz.func97,by kernel_rfl⟩
 ·cases h;exact ⟨Tryz.func98,by kernel_rfl⟩
 ·cases h;exact ⟨Tryz.func99,by kernel_rfl⟩
 ·cases h;exact ⟨Tryz.func100,by kernel_rfl⟩
 ·cases h;exact ⟨Tryz.func101,by kernel_rfl⟩
 ·cases h;exact ⟨Tryz.func102,by kernel_rfl⟩
 ·cases h;exact ⟨Tryz.func103,by kernel_rfl⟩
 ·cases h;exact ⟨Tryz.func104,by kernel_rfl⟩
 ·cases h;exact ⟨Tryz.func105,by kernel_rfl⟩
 ·cases h;exact ⟨Tryz.func106,by kernel_rfl⟩
 ·cases h;exact ⟨Tryz.func107,by kernel_rfl⟩
 ·cases h;exact ⟨Tryz.func108,by kernel_rfl⟩
 ·cases h;exact ⟨Tryz.func109,by kernel_rfl⟩
 ·cases h;exact ⟨Tryz.func110,by kernel_rfl⟩
 ·cases h;exact ⟨Tryz.func111,by kernel_rfl⟩
 ·cases h;exact ⟨Tryz.func112,by kernel_rfl⟩
 ·cases h;exact ⟨Tryz.func113,by kernel_rfl⟩
 ·cases h;exact ⟨Tryz.func114,by kernel_rfl⟩
 ·cases h;exact ⟨Tryz.func115,by kernel_rfl⟩
 ·cases h;exact ⟨Tryz.func116,by kernel_rfl⟩
 ·cases h;exact ⟨Tryz.func117,by kernel_rfl⟩
 ·cases h;exact ⟨Tryz.func118,by kernel_rfl⟩
 ·cases h;exact ⟨Tryz.func119,by kernel_rfl⟩
 ·cases h;exact ⟨Tryz.func120,by kernel_rfl⟩
 ·cases h;exact ⟨Tryz.func121,by kernel_rfl⟩
 ·cases h;exact ⟨Tryz.func122,by kernel_rfl⟩
 ·cases h;exact ⟨Tryz.func123,by kernel_rfl⟩
 ·cases h;exact ⟨Tryz.func124,by kernel_rfl⟩
 ·cases h;exact ⟨Tryz.func125,by kernel_rfl⟩
 ·cases h;exact ⟨Tryz.func126,by kernel_rfl⟩
 ·cases h;exact ⟨Tryz.func127,by kernel_rfl⟩
 ·cases h;exact ⟨Tryz.func128,by kernel_rfl⟩
 ·cases h;exact ⟨Tryz.func129,by kernel_rfl⟩
 ·cases h;exact ⟨Tryz.func130,by kernel_rfl⟩
 ·cases h;exact ⟨Tryz.func131,by kernel_rfl⟩
 ·cases h;exact ⟨Tryz.func132,by kernel_rfl⟩
 ·cases h;exact ⟨Tryz.func133,by kernel_rfl⟩
 ·cases h;exact ⟨Tryz.func134,by kernel_rfl⟩
 ·cases h;exact ⟨Tryz.func135,by kernel_rfl⟩
 ·cases h;exact ⟨Tryz.func136,by kernel_rfl⟩
 ·cases h;exact ⟨Tryz.func137,by kernel_rfl⟩
 ·cases h;exact ⟨Tryz.func138,by kernel_rfl⟩
 ·cases h;exact ⟨Tryz.func139,by kernel_rfl⟩
 ·cases h;exact ⟨Tryz.func140,by kernel_rfl⟩
 ·cases h;exact ⟨Tryz.func141,by kernel_rfl⟩
 ·cases h;exact ⟨Tryz.func142,by kernel_rfl⟩
 ·cases h;exact ⟨Tryz.func143,by kernel_rfl⟩
 ·cases h;exact ⟨Tryz.func144,by kernel_rfl⟩
 ·cases h;exact ⟨Tryz.func145,by kernel_rfl⟩
 ·cases h;exact ⟨Tryz.func146,by kernel_rfl⟩
 ·cases h;exact ⟨Tryz.func147,by kernel_rfl⟩
 ·cases h;exact ⟨Tryz.func148,by kernel_rfl⟩
 ·cases h;exact ⟨Tryz.func149,by kernel_rfl⟩
 ·cases h;exact ⟨Tryz.func150,by kernel_rfl⟩
 ·cases h;exact ⟨Tryz.func151,by kernel_rfl⟩
 ·cases h;exact ⟨Tryz.func152,by kernel_rfl⟩
 ·cases h;exact ⟨Tryz.func153,by kernel_rfl⟩
 ·cases h;exact ⟨Tryz.func154,by kernel_rfl⟩
 ·cases h;exact ⟨Tryz.func155,by kernel_rfl⟩
 ·cases h;exact ⟨Tryz.func156,by kernel_rfl⟩
 ·cases h;exact ⟨Tryz.func157,by kernel_rfl⟩
 ·cases h;exact ⟨Tryz.func158,by kernel_rfl⟩
 ·cases h;exact ⟨Tryz.func159,by kernel_rfl⟩
 ·cases h;exact ⟨Tryz.func160,by kernel_rfl⟩
 ·cases h;exact ⟨Tryz.func161,by kernel_rfl⟩
 ·cases h
theorem mixed:Tryz.prog.follows .mixedOrders=true:=by kernel_rfl
noncomputable def CR:List Int:=[255,255,65535,16777215,4294967295,1099511627775,281474976710655,72057594037927935,18446744073709551615]
noncomputable def cQ:Nat→Option AV
 | 0=>some (.arr 3 (.int .u8) [2,4,6])
 | 1=>some (.arr 3 (.int .u8) [3,5,7])
 | 2=>some (.arr 32 (.int .u8) [0,1,28,2,29,14,24,3,30,22,20,15,25,17,4,8,31,27,13,23,21,19,16,7,26,12,18,6,11,5,10,9])
 | 3=>some (.arr 64 (.int .u8) [0,1,56,2,57,49,28,3,61,58,42,50,38,29,17,4,62,47,59,36,45,43,51,22,53,39,33,30,24,18,12,5,63,55,48,27,60,41,37,16,46,35,44,21,52,32,23,11,54,26,40,15,34,20,31,10,25,14,19,9,13,8,7,6])
 | 4=>some (.arr 9 (.int .u64) CR)
 | _=>none
def sched:FuncId→Nat→Option PM
 | 5,7=>some (.one 1 (.one 2 (.one 0 (.one 3 (.one 4 (.one 5 (.one 6 (.one 7 (.one 8 .fin)))))))))
 | _,_=>none
def split:FuncId→Nat→Option (Nat×List Step×Nat)
 | _,_=>none
def tail:FuncId→Nat→Bool
 | _,_=>false
def Hp:FuncId→Nat→List Nat
 | 4,20=>[16]
 | 9,5=>[5]
 | 26,10=>[5]
 | 50,1=>[4]
 | 50,2=>[5]
 | 51,0=>[2]
 | 51,1=>[3]
 | 51,2=>[4]
 | 51,3=>[5]
 | 59,0=>[2]
 | 59,1=>[3]
 | 83,1=>[6]
 | 84,0=>[6]
 | 84,1=>[7]
 | 84,2=>[8]
 | 87,1=>[4]
 | 87,8=>[7]
 | 87,20=>[12,13,14]
 | _,_=>[]
def kh:TypeId→Bool
 | 65=>true
 | _=>false
def NF:FuncId→Bool
 | _=>false
def WQ:FuncId→Nat→Option Nat
 | 5,11=>some 6
 | _,_=>none
def exact:FuncId→Bool
 | _=>false
def apart:FuncId→Bool
 | _=>false
theorem D6:∀ f,apart f=true→BU Tryz.prog f:=by
 intro f h
 unfold apart at h
 split at h
 ·cases h
noncomputable def sort:FuncId→Option fG
 | _=>none
theorem GJ:∀ f s,sort f=some s→Gy Tryz.prog f s:=by
 intro f s h
 unfold sort at h
 split at h
 ·cases h
noncomputable def env (sp:FuncId→Option Spec) (pc:FuncId→Option aH) (pb:Bool) (mk:FuncId→Nat→Option (List Nat)):Env:={P:=Tryz.prog,ty:=ty,fns:=fns,cQ:=cQ,spec:=sp,mask:=mk,exact:=exact,apart:=apart,split:=split,sched:=sched,sort:=sort,WQ:=WQ,tail:=tail,rows:=true,NF:=NF,proc:=pc,procs:=pb,kh:=kh,ns:=true,Hp:=Hp}
noncomputable abbrev aA:Env:=env (fun _=>none) (fun _=>none) false (fun _ _=>none)
theorem valid (sp:FuncId→Option Spec) (pc:FuncId→Option aH) (pb:Bool) (mk:FuncId→Nat→Option (List Nat)):(env sp pc pb mk).Valid:=⟨OQ,Mj,mixed,D6,GJ⟩
noncomputable def DT (sp:FuncId→Option Spec) (pc:FuncId→Option aH) (pb:Bool) (mk:FuncId→Nat→Option (List Nat)):Env:={env sp pc pb mk with Ea:=true}
theorem PQ (sp:FuncId→Option Spec) (pc:FuncId→Option aH) (pb:Bool) (mk:FuncId→Nat→Option (List Nat)):(DT sp pc pb mk).Valid:=⟨OQ,Mj,mixed,D6,GJ⟩
end Go.bz.RL
end
section
namespace Go.bz.RL
open Go.Proofs Go.bz Go.RowKit
def Ku:List Int:=[0,1,28,2,29,14,24,3,30,22,20,15,25,17,4,8,31,27,13,23,21,19,16,7,26,12,18,6,11,5,10,9]
def Kt:List Int:=[0,1,56,2,57,49,28,3,61,58,42,50,38,29,17,4,62,47,59,36,45,43,51,22,53,39,33,30,24,18,12,5,63,55,48,27,60,41,37,16,46,35,44,21,52,32,23,11,54,26,40,15,34,20,31,10,25,14,19,9,13,8,7,6]
def PT:List Int:=[2,4,6]
def PU:List Int:=[3,5,7]
theorem JH {W:World} (hL:laidMet Tryz.prog [("math/bits.deBruijn32tab",Lib.tabData .u8 Ku),("math/bits.deBruijn64tab",Lib.tabData .u8 Kt),("sundial/bits.masks",Lib.tabData .u64 CR),("sundial/lift.more",Lib.tabData .u8 PT),("sundial/lift.less",Lib.tabData .u8 PU)] W):dc aA ⟨W,nb W,⟨[]⟩⟩:=by
 have h2:=Lib.tabIs_of_head (g:=2) (by kernel_rfl) (by kernel_rfl) Tryz.underlying124 Tryz.underlying5 (by kernel_rfl) (by kernel_rfl) hL
 have h3:=Lib.tabIs_of_head (g:=3) (by kernel_rfl) (by kernel_rfl) Tryz.underlying125 Tryz.underlying5 (by kernel_rfl) (by kernel_rfl) (laidMet.tail hL)
 have h4:=Lib.tabIs_of_head (g:=4) (by kernel_rfl) (by kernel_rfl) Tryz.underlying127 Tryz.underlying26 (by kernel_rfl) (by kernel_rfl) (laidMet.tail (laidMet.tail hL))
 have h0:=Lib.tabIs_of_head (g:=0) (by kernel_rfl) (by kernel_rfl) Tryz.underlying106 Tryz.underlying5 (by kernel_rfl) (by kernel_rfl) (laidMet.tail (laidMet.tail (laidMet.tail hL)))
 have h1:=Lib.tabIs_of_head (g:=1) (by kernel_rfl) (by kernel_rfl) Tryz.underlying106 Tryz.underlying5 (by kernel_rfl) (by kernel_rfl) (laidMet.tail (laidMet.tail (laidMet.tail (laidMet.tail hL))))
 have e2:Tryz.prog.globalNamed "math/bits.deBruijn32tab" = some 2:=by kernel_rfl
 have e3:Tryz.prog.globalNamed "math/bits.deBruijn64tab" = some 3:=by kernel_rfl
 have e4:Tryz.prog.globalNamed "sundial/bits.masks" = some 4:=by kernel_rfl
 have e0:Tryz.prog.globalNamed "sundial/lift.more" = some 0:=by kernel_rfl
 have e1:Tryz.prog.globalNamed "sundial/lift.less" = some 1:=by kernel_rfl
 unfold Lib.TabIs World.var? at h0 h1 h2 h3 h4
 rw [e0] at h0
 rw [e1] at h1
 rw [e2] at h2
 rw [e3] at h3
 rw [e4] at h4
 simp only [Option.bind_some] at h0 h1 h2 h3 h4
 intro g v e
 have e:cQ g=some v:=e
 unfold cQ at e
 split at e
 ·cases e
  split at h0
  ·rename_i cs' t fz hh
   simp only [Option.some.injEq] at h0
   subst h0
   refine ⟨(PT.map fun z=>Value.int .u8 z).toArray,t,fz,PT.map fun z=>Value.int .u8 z,hh,fun ι'=>gE ι' _ _ (by kernel_rfl),?_⟩
   intro j v hj
   simpa using hj
  ·cases h0
 ·cases e
  split at h1
  ·rename_i cs' t fz hh
   simp only [Option.some.injEq] at h1
   subst h1
   refine ⟨(PU.map fun z=>Value.int .u8 z).toArray,t,fz,PU.map fun z=>Value.int .u8 z,hh,fun ι'=>gE ι' _ _ (by kernel_rfl),?_⟩
   intro j v hj
   simpa using hj
  ·cases h1
 ·cases e
  split at h2
  ·rename_i cs' t fz hh
   simp only [Option.some.injEq] at h2
   subst h2
   refine ⟨(Ku.map fun z=>Value.int .u8 z).toArray,t,fz,Ku.map fun z=>Value.int .u8 z,hh,fun ι'=>gE ι' _ _ (by kernel_rfl),?_⟩
   intro j v hj
   simpa using hj
  ·cases h2
 ·cases e
  split at h3
  ·rename_i cs' t fz hh
   simp only [Option.some.injEq] at h3
   subst h3
   refine ⟨(Kt.map fun z=>Value.int .u8 z).toArray,t,fz,Kt.map fun z=>Value.int .u8 z,hh,fun ι'=>gE ι' _ _ (by kernel_rfl),?_⟩
   intro j v hj
   simpa using hj
  ·cases h3
 ·cases e
  split at h4
  ·rename_i cs' t fz hh
   simp only [Option.some.injEq] at h4
   subst h4
   refine ⟨(CR.map fun z=>Value.int .u64 z).toArray,t,fz,CR.map fun z=>Value.int .u64 z,hh,fun ι'=>gE ι' _ _ (by kernel_rfl),?_⟩
   intro j v hj
   simpa using hj
  ·cases h4
 ·cases e
end Go.bz.RL
end
section
namespace Go.bz.RL
open Go.Proofs Go.bz
inductive Wy where
 | h0 (v3:Int)
 | h1 (v3:Nat) (v4:Bool) (v5:Int) (v6:Nat) (v7:ao)
noncomputable def ql (_x:bq):Tr (Wy⊕ao):=
 .ret (.inl (.h0 0))
noncomputable def gu (x:bq):Wy→Tr (Wy⊕ao)
 | .h0 v3=>
 .ite (cF v3 (x.1.length:Int)) (
 .aa ((0:Int)≤v3)<|
 .aa (v3 < (x.1.length:Int))<|
 let y0:Int:=(eZ (.int .i64) x.1 (v3).toNat)
 .ite (cj x.2 y0) (
 .aa ((0:Nat) < 1)<|
 .aa (((0:Nat)+1:Nat)≤1)<|
 .aa (((1:Nat) * 8:Nat)≤2 ^ 40)<|
 .aa ((1:Nat)≤2 ^ 40)<|
 .aa ((0:Int)≤v3)<|
 .aa (v3 < (x.1.length:Int))<|
 let y1:=(dG y0 x.2)
 .ite y1 (
 .aa ((0:Int)≤v3)<|
 .aa (v3 < (x.1.length:Int))<|
 .aa ((0:Nat) < 1)<|
 .aa (((0:Nat)+1:Nat)≤1)<|
 .aa ((1:Nat)=1)<|
 .aa (((2:Nat) * 8:Nat)≤2 ^ 40)<|
 .aa ((2:Nat)≤2 ^ 40)<|
 let y2:Int:=(aK .i64 v3 1)
 .ret (.inl (.h1 2 true y2 2 [x.2,y0]))) (
 let y3:Int:=(aK .i64 v3 1)
 let y4:ao:=[x.2]
 .ret (.inl (.h1 1 true y3 1 y4)))) (
 .aa ((0:Int)≤v3)<|
 .aa (v3 < (x.1.length:Int))<|
 let y5:=(dG y0 x.2)
 .ite y5 (
 .aa ((0:Int)≤v3)<|
 .aa (v3 < (x.1.length:Int))<|
 .aa ((0:Nat) < 1)<|
 .aa (((0:Nat)+1:Nat)≤1)<|
 .aa (((1:Nat) * 8:Nat)≤2 ^ 40)<|
 .aa ((1:Nat)≤2 ^ 40)<|
 let y6:Int:=(aK .i64 v3 1)
 .ret (.inl (.h1 1 false y6 1 [y0]))) (
 let y7:Int:=(aK .i64 v3 1)
 .ret (.inl (.h0 y7))))) (
 .aa ((0:Nat) < 1)<|
 .aa (((0:Nat)+1:Nat)≤1)<|
 .aa (((1:Nat) * 8:Nat)≤2 ^ 40)<|
 .aa ((1:Nat)≤2 ^ 40)<|
 .aa (((0:Nat)+1:Nat)≤1)<|
 let y8:ao:=[x.2]
 .ret (.inr y8))
 | .h1 v3 v4 v5 v6 v7=>
 .ite (cF v5 (x.1.length:Int)) (
 .ite ((!v4)==true) (
 .aa ((0:Int)≤v5)<|
 .aa (v5 < (x.1.length:Int))<|
 let y0:Int:=(eZ (.int .i64) x.1 (v5).toNat)
 .ite (cj x.2 y0) (
 .aa ((0:Nat) < 1)<|
 .aa (((0:Nat)+1:Nat)≤1)<|
 .aa ((v3:Nat)=v6)<|
 let y1:Nat:=(v3+1)
 .aa (((y1:Nat) * 8:Nat)≤2 ^ 40)<|
 .aa ((y1:Nat)≤2 ^ 40)<|
 .aa ((0:Int)≤v5)<|
 .aa (v5 < (x.1.length:Int))<|
 let y2:=(dG y0 x.2)
 .ite y2 (
 .aa ((0:Int)≤v5)<|
 .aa (v5 < (x.1.length:Int))<|
 .aa ((0:Nat) < 1)<|
 .aa (((0:Nat)+1:Nat)≤1)<|
 .aa ((y1:Nat)=y1)<|
 let y3:Nat:=(y1+1)
 .aa (((y3:Nat) * 8:Nat)≤2 ^ 40)<|
 .aa ((y3:Nat)≤2 ^ 40)<|
 let y4:Int:=(aK .i64 v5 1)
 let y5:ao:=(v7++[x.2])
 let y6:ao:=[y0]
 .ret (.inl (.h1 y3 true y4 y3 (y5++y6)))) (
 let y7:Int:=(aK .i64 v5 1)
 let y8:ao:=(v7++[x.2])
 .ret (.inl (.h1 y1 true y7 y1 y8)))) (
 .aa ((0:Int)≤v5)<|
 .aa (v5 < (x.1.length:Int))<|
 let y9:=(dG y0 x.2)
 .ite y9 (
 .aa ((0:Int)≤v5)<|
 .aa (v5 < (x.1.length:Int))<|
 .aa ((0:Nat) < 1)<|
 .aa (((0:Nat)+1:Nat)≤1)<|
 .aa ((v3:Nat)=v6)<|
 let y10:Nat:=(v3+1)
 .aa (((y10:Nat) * 8:Nat)≤2 ^ 40)<|
 .aa ((y10:Nat)≤2 ^ 40)<|
 let y11:Int:=(aK .i64 v5 1)
 let y12:ao:=[y0]
 let y13:ao:=(v7++y12)
 .ret (.inl (.h1 y10 v4 y11 y10 y13))) (
 let y14:Int:=(aK .i64 v5 1)
 .ret (.inl (.h1 v3 v4 y14 v6 v7))))) (
 .aa ((0:Int)≤v5)<|
 .aa (v5 < (x.1.length:Int))<|
 let y15:Int:=(eZ (.int .i64) x.1 (v5).toNat)
 let y16:=(dG y15 x.2)
 .ite y16 (
 .aa ((0:Int)≤v5)<|
 .aa (v5 < (x.1.length:Int))<|
 .aa ((0:Nat) < 1)<|
 .aa (((0:Nat)+1:Nat)≤1)<|
 .aa ((v3:Nat)=v6)<|
 let y17:Nat:=(v3+1)
 .aa (((y17:Nat) * 8:Nat)≤2 ^ 40)<|
 .aa ((y17:Nat)≤2 ^ 40)<|
 let y18:Int:=(aK .i64 v5 1)
 let y19:ao:=[y15]
 let y20:ao:=(v7++y19)
 .ret (.inl (.h1 y17 v4 y18 y17 y20))) (
 let y21:Int:=(aK .i64 v5 1)
 .ret (.inl (.h1 v3 v4 y21 v6 v7))))) (
 .ite (!v4) (
 .aa ((0:Nat) < 1)<|
 .aa (((0:Nat)+1:Nat)≤1)<|
 .aa ((v3:Nat)=v6)<|
 let y22:Nat:=(v3+1)
 .aa (((y22:Nat) * 8:Nat)≤2 ^ 40)<|
 .aa ((y22:Nat)≤2 ^ 40)<|
 .aa (((0:Nat)+y22:Nat)≤y22)<|
 let y23:ao:=(v7++[x.2])
 .ret (.inr (y23.take y22))) (
 .aa (((0:Nat)+v3:Nat)≤v6)<|
 .ret (.inr (v7.take v3))))
noncomputable def gY (x:bq):Wy→Head
 | .h0 v3=>
 {fr:={id:=74,kind:=.top,T:=[(.gf (.int .i64) x.1),(.int .i64 x.2),.any,.any,.any,(.raw (.slice none 0 0)),(.bool false),(.int .i64 v3)]++List.replicate 40 .any,items:=[.lp (ay [1,1,1,0,1,0,0] (ag Tryz.f74)),.a6 0,.code (ay [1,1,1,1] (ag Tryz.f74))],D:=[],base:=0},
  bm:=[],
  H:=[]}
 | .h1 v3 v4 v5 v6 v7=>
 {fr:={id:=74,kind:=.top,T:=[(.gf (.int .i64) x.1),(.int .i64 x.2),.any,.any,.any,(.bw 0 [] 1 0 v3 none),(.bool v4),(.int .i64 v5)]++List.replicate 40 .any,items:=[.lp (ay [1,1,1,0,1,0,0] (ag Tryz.f74)),.a6 0,.code (ay [1,1,1,1] (ag Tryz.f74))],D:=[],base:=0},
  bm:=[],
  H:=[.cell true 3 (.arr v6 (.int .i64) v7)]}
noncomputable def zf:FuncId→Nat→Nat→Option Cut
 | 74,0,0=>some {tmps:=[0,1,5,6,7],loops:=[],dead:=[],bm:=[]}
 | _,_,_=>none
noncomputable def eG (x:bq):ao:=gh (TC.kP (.slice (.int .i64))) (gu x) (ql x)
def fm (x:bq):Prop:=∃ r,Ends (gu x) r (ql x)
noncomputable def jx:Spec:={eX:=(.st (.slice (.int .i64)) (.bu (.int .i64))),cB:=(.slice (.int .i64)),n:=1,pre:=fm,f:=eG}
noncomputable def oy:FuncId→Option Spec
 | _=>none
theorem IN:∀ f sp,oy f=some sp→ah aA f sp:=by
 intro f sp h
 unfold oy at h
 split at h
 ·cases h
section
variable (W:cM) (Q:ao→Prop) (x:bq)
theorem Tq:run (env oy (fun _=>none) false (fun _ _=>none)) zf (bE jx Q) W 100000 (bl 74 Tryz.f74 (ag Tryz.f74) (bp (.st (.slice (.int .i64)) (.bu (.int .i64))) x)) [] []=(ql x).wp (cw W Q (gY x)):=by kernel_rfl
theorem Nn (v3:Int):run (env oy (fun _=>none) false (fun _ _=>none)) zf (bE jx Q) W 100000 (gY x (.h0 v3)).fr.enter (gY x (.h0 v3)).bm (gY x (.h0 v3)).H=(gu x (.h0 v3)).wp (cw W Q (gY x)):=by kernel_rfl
theorem Nm (v3:Nat) (v4:Bool) (v5:Int) (v6:Nat) (v7:List Int):run (env oy (fun _=>none) false (fun _ _=>none)) zf (bE jx Q) W 100000 (gY x (.h1 v3 v4 v5 v6 v7)).fr.enter (gY x (.h1 v3 v4 v5 v6 v7)).bm (gY x (.h1 v3 v4 v5 v6 v7)).H=(gu x (.h1 v3 v4 v5 v6 v7)).wp (cw W Q (gY x)):=by kernel_rfl
end
theorem PW (W:cM) (Q:ao→Prop) (x:bq):∀ j:Wy,run (env oy (fun _=>none) false (fun _ _=>none)) zf (bE jx Q) W 100000 (gY x j).fr.enter (gY x j).bm (gY x j).H=(gu x j).wp (cw W Q (gY x))
 | .h0 v3=>Nn W Q x v3
 | .h1 v3 v4 v5 v6 v7=>Nm W Q x v3 v4 v5 v6 v7
theorem LX:ah aA 74 jx:=ah.env rfl (fun _ _ h=>h) (dF (E:=(env oy (fun _=>none) false (fun _ _=>none))) (sp:=jx) (valid _ _ _ _) ⟨fun f sp h=>ah.env rfl (fun _ _ h=>h) (IN f sp h),fun f ps h=>nomatch h⟩ (fn:=Tryz.f74) (c:=(ag Tryz.f74)) (by kernel_rfl) (by kernel_rfl) ql gu gY Tq PW (fun _ h=>dI h))
noncomputable def qk (x:DO):Tr ao:=
 .ite (dG x.1 2) (
 .ret ([]:List Int)) (
 let y0:=x.2.2
 let y1:=y0.1
 .ite (cj 0 y1) (
 .aa ((0:Nat) < 1)<|
 .aa (((0:Nat)+1:Nat)≤1)<|
 .aa (((1:Nat) * 8:Nat)≤2 ^ 40)<|
 .aa ((1:Nat)≤2 ^ 40)<|
 let y2:=y0.2.1
 let y3:=(cj 0 y2)
 .ite y3 (
 .aa ((0:Nat) < 1)<|
 .aa (((0:Nat)+1:Nat)≤1)<|
 .aa ((1:Nat)=1)<|
 .aa (((2:Nat) * 8:Nat)≤2 ^ 40)<|
 .aa ((2:Nat)≤2 ^ 40)<|
 .aa (((0:Nat)+2:Nat)≤2)<|
 .ret [y1,y2]) (
 .aa (((0:Nat)+1:Nat)≤1)<|
 .ret [y1])) (
 let y4:=y0.2.1
 let y5:=(cj 0 y4)
 .ite y5 (
 .aa ((0:Nat) < 1)<|
 .aa (((0:Nat)+1:Nat)≤1)<|
 .aa (((1:Nat) * 8:Nat)≤2 ^ 40)<|
 .aa ((1:Nat)≤2 ^ 40)<|
 .aa (((0:Nat)+1:Nat)≤1)<|
 .ret [y4]) (
 .ret ([]:List Int))))
noncomputable def Mm (x:DO):ao:=(qk x).val
def Cw (x:DO):Prop:=(qk x).ok
noncomputable def wh:Spec:={eX:=(.bu CO),cB:=(.slice (.int .i64)),n:=1,pre:=Cw,f:=Mm}
noncomputable def Ak:FuncId→Option Spec
 | _=>none
theorem IM:∀ f sp,Ak f=some sp→ah aA f sp:=by
 intro f sp h
 unfold Ak at h
 split at h
 ·cases h
section
variable (W:cM) (Q:ao→Prop) (x:DO)
theorem Tp:run (env Ak (fun _=>none) false (fun _ _=>none)) (fun _ _ _=>none) (bE wh Q) W 100000 (bl 75 Tryz.f75 (ag Tryz.f75) (bp (.bu CO) x)) [] []=(qk x).wp Q:=by kernel_rfl
end
theorem VH:ah aA 75 wh:=ah.env rfl (fun _ _ h=>h) (aG (E:=(env Ak (fun _=>none) false (fun _ _=>none))) (sp:=wh) (valid _ _ _ _) ⟨fun f sp h=>ah.env rfl (fun _ _ h=>h) (IM f sp h),fun f ps h=>nomatch h⟩ (fn:=Tryz.f75) (c:=(ag Tryz.f75)) (by kernel_rfl) (by kernel_rfl) qk Tp (fun _ h=>Tr.an h))
inductive M5 where
 | h0 (v0:ao) (v1:Int) (v2:ao) (v4:ao)
noncomputable def m5 (x:za):Tr (M5⊕aS):=
 .aa (Cw x.2)<|
 .ret (.inl (.h0 (Mm x.2) 0 x.1.1 x.1.2.2.1))
noncomputable def iG (x:za):M5→Tr (M5⊕aS)
 | .h0 v0 v1 v2 v4=>
 .ite (cF v1 (v0.length:Int)) (
 .aa ((0:Int)≤v1)<|
 .aa (v1 < (v0.length:Int))<|
 let y0:Int:=(eZ (.int .i64) v0 (v1).toNat)
 let y1:bq:=(v2,y0)
 .aa (fm y1)<|
 .aa ((0:Int)≤v1)<|
 .aa (v1 < (v0.length:Int))<|
 let y2:bq:=(v4,y0)
 .aa (fm y2)<|
 .ret (.inl (.h0 v0 (aK .i64 v1 1) (eG y1) (eG y2)))) (
 let y3:=x.1.2
 .ret (.inr (v2,(y3.1,(v4,y3.2.2)))))
noncomputable def iK (x:za):M5→Head
 | .h0 v0 v1 v2 v4=>
 {fr:={id:=101,kind:=.top,T:=[.any,.any,(.ptr 0 []),.any,(.ptr 1 []),(.gf (.int .i64) v0),(.int .i64 v1)]++List.replicate 25 .any,items:=[.lp (ay [1,1,0,1,0,0] (ag Tryz.f101)),.a6 0,.code (ay [1,1,1] (ag Tryz.f101))],D:=[],base:=0},
  bm:=[],
  H:=[.cell true 43 (.agg [1,1,1,1,1,1,1,1] [(.gf (.int .i64) v2),(.gf (.int .i64) x.1.2.1),(.gf (.int .i64) v4),(.int .u8 x.1.2.2.2.1),(.int .u8 x.1.2.2.2.2.1),(.int .i64 x.1.2.2.2.2.2.1),(.int .i64 x.1.2.2.2.2.2.2.1),(.bool x.1.2.2.2.2.2.2.2)]),.cell true 43 (.agg [1,1,1,1,1,1,1,1] [(.raw (.slice none 0 0)),(.raw (.slice none 0 0)),(.raw (.slice none 0 0)),(.int .u8 0),(.int .u8 0),(.int .i64 0),(.int .i64 0),(.bool false)])]}
noncomputable def zk:FuncId→Nat→Nat→Option Cut
 | 101,0,0=>some {tmps:=[2,4,5,6],loops:=[],dead:=[],bm:=[]}
 | _,_,_=>none
noncomputable def yB (x:za):aS:=gh (TC.kP fD) (iG x) (m5 x)
def ry (x:za):Prop:=∃ r,Ends (iG x) r (m5 x)
noncomputable def lk:Spec:={eX:=(.st fD (.bu CO)),cB:=fD,n:=1,pre:=ry,f:=yB}
noncomputable def nr:FuncId→Option Spec
 | 74=>some jx
 | 75=>some wh
 | _=>none
theorem F8:∀ f sp,nr f=some sp→ah aA f sp:=by
 intro f sp h
 unfold nr at h
 split at h
 ·cases h;exact LX
 ·cases h;exact VH
 ·cases h
section
variable (W:cM) (Q:aS→Prop) (x:za)
theorem QE:run (env nr (fun _=>none) false (fun _ _=>none)) zk (bE lk Q) W 100000 (bl 101 Tryz.f101 (ag Tryz.f101) (bp (.st fD (.bu CO)) x)) [] []=(m5 x).wp (cw W Q (iK x)):=by kernel_rfl
theorem K5 (v0:List Int) (v1:Int) (v2 v4:List Int):run (env nr (fun _=>none) false (fun _ _=>none)) zk (bE lk Q) W 100000 (iK x (.h0 v0 v1 v2 v4)).fr.enter (iK x (.h0 v0 v1 v2 v4)).bm (iK x (.h0 v0 v1 v2 v4)).H=(iG x (.h0 v0 v1 v2 v4)).wp (cw W Q (iK x)):=by kernel_rfl
end
theorem Nl (W:cM) (Q:aS→Prop) (x:za):∀ j:M5,run (env nr (fun _=>none) false (fun _ _=>none)) zk (bE lk Q) W 100000 (iK x j).fr.enter (iK x j).bm (iK x j).H=(iG x j).wp (cw W Q (iK x))
 | .h0 v0 v1 v2 v4=>K5 W Q x v0 v1 v2 v4
theorem PC:ah aA 101 lk:=ah.env rfl (fun _ _ h=>h) (dF (E:=(env nr (fun _=>none) false (fun _ _=>none))) (sp:=lk) (valid _ _ _ _) ⟨fun f sp h=>ah.env rfl (fun _ _ h=>h) (F8 f sp h),fun f ps h=>nomatch h⟩ (fn:=Tryz.f101) (c:=(ag Tryz.f101)) (by kernel_rfl) (by kernel_rfl) m5 iG iK QE Nl (fun _ h=>dI h))
noncomputable def qn (x:xE):Tr aS:=
 let y0:DO:=x.2.1
 let y1:Int:=y0.1
 .ite (ak y1 1) (
 let y2:bq:=(x.1.1,y0.2.1)
 .aa (fm y2)<|
 let y3:=(ak y1 2)
 .ite y3 (
 let y4:oT:=((eG y2),x.1.2)
 let y5:SZ:=(y4,y0)
 .aa (ry y5)<|
 let y6:=(yB y5)
 let y7:=y6.2
 let y8:=y7.2
 let y9:=y8.2
 let y10:=y9.2
 let y11:=x.2.2
 .ret (y6.1,(y7.1,(y8.1,(y9.1,(y10.1,(y11,y10.2.2))))))) (
 let y12:oT:=((eG y2),x.1.2)
 .ret y12)) (
 let y13:=(ak y1 2)
 .ite y13 (
 let y14:za:=(x.1,y0)
 .aa (ry y14)<|
 let y15:=(yB y14)
 let y16:=y15.2
 let y17:=y16.2
 let y18:=y17.2
 let y19:=y18.2
 let y20:=x.2.2
 .ret (y15.1,(y16.1,(y17.1,(y18.1,(y19.1,(y20,y19.2.2))))))) (
 .ret x.1))
noncomputable def cD (x:xE):aS:=(qn x).val
def fp (x:xE):Prop:=(qn x).ok
noncomputable def n0:Spec:={eX:=(.st fD (.st CO (.bu (.int .i64)))),cB:=fD,n:=1,pre:=fp,f:=cD}
noncomputable def An:FuncId→Option Spec
 | 74=>some jx
 | 101=>some lk
 | _=>none
theorem IS:∀ f sp,An f=some sp→ah aA f sp:=by
 intro f sp h
 unfold An at h
 split at h
 ·cases h;exact LX
 ·cases h;exact PC
 ·cases h
section
variable (W:cM) (Q:aS→Prop) (x:xE)
theorem Tu:run (env An (fun _=>none) false (fun _ _=>none)) (fun _ _ _=>none) (bE n0 Q) W 100000 (bl 71 Tryz.f71 (ag Tryz.f71) (bp (.st fD (.st CO (.bu (.int .i64)))) x)) [] []=(qn x).wp Q:=by kernel_rfl
end
theorem NT:ah aA 71 n0:=ah.env rfl (fun _ _ h=>h) (aG (E:=(env An (fun _=>none) false (fun _ _=>none))) (sp:=n0) (valid _ _ _ _) ⟨fun f sp h=>ah.env rfl (fun _ _ h=>h) (IS f sp h),fun f ps h=>nomatch h⟩ (fn:=Tryz.f71) (c:=(ag Tryz.f71)) (by kernel_rfl) (by kernel_rfl) qn Tu (fun _ h=>Tr.an h))
noncomputable def qm (x:xE):Tr aS:=
 let y0:DO:=x.2.1
 let y1:Int:=y0.1
 .ite (ak y1 1) (
 let y2:=x.1.2
 let y3:bq:=(y2.1,y0.2.1)
 .aa (fm y3)<|
 let y4:=(ak y1 2)
 .ite y4 (
 let y5:oT:=(x.1.1,((eG y3),y2.2))
 let y6:SZ:=(y5,y0)
 .aa (ry y6)<|
 let y7:=(yB y6)
 let y8:=y7.2
 let y9:=y8.2
 let y10:=y9.2
 let y11:=y10.2
 let y12:=y11.2
 let y13:=x.2.2
 .ret (y7.1,(y8.1,(y9.1,(y10.1,(y11.1,(y12.1,(y13,y12.2.2)))))))) (
 let y14:oT:=(x.1.1,((eG y3),y2.2))
 .ret y14)) (
 let y15:=(ak y1 2)
 .ite y15 (
 let y16:za:=(x.1,y0)
 .aa (ry y16)<|
 let y17:=(yB y16)
 let y18:=y17.2
 let y19:=y18.2
 let y20:=y19.2
 let y21:=y20.2
 let y22:=y21.2
 let y23:=x.2.2
 .ret (y17.1,(y18.1,(y19.1,(y20.1,(y21.1,(y22.1,(y23,y22.2.2)))))))) (
 .ret x.1))
noncomputable def iy (x:xE):aS:=(qm x).val
def iQ (x:xE):Prop:=(qm x).ok
noncomputable def nZ:Spec:={eX:=(.st fD (.st CO (.bu (.int .i64)))),cB:=fD,n:=1,pre:=iQ,f:=iy}
noncomputable def Am:FuncId→Option Spec
 | 74=>some jx
 | 101=>some lk
 | _=>none
theorem IQ:∀ f sp,Am f=some sp→ah aA f sp:=by
 intro f sp h
 unfold Am at h
 split at h
 ·cases h;exact LX
 ·cases h;exact PC
 ·cases h
section
variable (W:cM) (Q:aS→Prop) (x:xE)
theorem Tt:run (env Am (fun _=>none) false (fun _ _=>none)) (fun _ _ _=>none) (bE nZ Q) W 100000 (bl 72 Tryz.f72 (ag Tryz.f72) (bp (.st fD (.st CO (.bu (.int .i64)))) x)) [] []=(qm x).wp Q:=by kernel_rfl
end
theorem NS:ah aA 72 nZ:=ah.env rfl (fun _ _ h=>h) (aG (E:=(env Am (fun _=>none) false (fun _ _=>none))) (sp:=nZ) (valid _ _ _ _) ⟨fun f sp h=>ah.env rfl (fun _ _ h=>h) (IQ f sp h),fun f ps h=>nomatch h⟩ (fn:=Tryz.f72) (c:=(ag Tryz.f72)) (by kernel_rfl) (by kernel_rfl) qm Tt (fun _ h=>Tr.an h))
end Go.bz.RL
end
section
namespace Go.bz.RL
open Go.Proofs Go.bz
noncomputable def yZ (x:Int):Tr aF:=
 .ret (true,(0,x))
noncomputable def aP (x:Int):aF:=(yZ x).val
def bn (x:Int):Prop:=(yZ x).ok
noncomputable def dR:Spec:={eX:=(.bu (.int .u64)),cB:=ar,n:=1,pre:=bn,f:=aP}
noncomputable def Bb:FuncId→Option Spec
 | _=>none
theorem JD:∀ f sp,Bb f=some sp→ah aA f sp:=by
 intro f sp h
 unfold Bb at h
 split at h
 ·cases h
section
variable (W:cM) (Q:aF→Prop) (x:Int)
theorem Um:run (env Bb (fun _=>none) false (fun _ _=>none)) (fun _ _ _=>none) (bE dR Q) W 100000 (bl 11 Tryz.f11 (ag Tryz.f11) (bp (.bu (.int .u64)) x)) [] []=(yZ x).wp Q:=by kernel_rfl
end
theorem jQ:ah aA 11 dR:=ah.env rfl (fun _ _ h=>h) (aG (E:=(env Bb (fun _=>none) false (fun _ _=>none))) (sp:=dR) (valid _ _ _ _) ⟨fun f sp h=>ah.env rfl (fun _ _ h=>h) (JD f sp h),fun f ps h=>nomatch h⟩ (fn:=Tryz.f11) (c:=(ag Tryz.f11)) (by kernel_rfl) (by kernel_rfl) yZ Um (fun _ h=>Tr.an h))
inductive M4 where
 | h0 (v2:Int) (v3:Int)
noncomputable def m0 (x:bq):Tr (M4⊕Int):=
 .ret (.inl (.h0 (x.1.length:Int) 0))
noncomputable def iE (x:bq):M4→Tr (M4⊕Int)
 | .h0 v2 v3=>
 .ite (cF v3 v2) (
 .aa ((0:Int)≤v3)<|
 .aa (v3 < (x.1.length:Int))<|
 .ite (ak x.2 (eZ (.int .u8) x.1 (v3).toNat)) (
 .ret (.inr v3)) (
 .ret (.inl (.h0 v2 (aK .i64 v3 1))))) (
 .ret (.inr (-1)))
noncomputable def iJ (x:bq):M4→Head
 | .h0 v2 v3=>
 {fr:={id:=114,kind:=.top,T:=[(.gf (.int .u8) x.1),(.int .u8 x.2)]++List.replicate 5 .any++[(.int .i64 v2),(.int .i64 v3)]++List.replicate 10 .any,items:=[.lp (ay [1,0,1,0,0] (ag Tryz.f114)),.a6 0,.code (ay [1,1] (ag Tryz.f114))],D:=[],base:=0},
  bm:=[],
  H:=[]}
noncomputable def zi:FuncId→Nat→Nat→Option Cut
 | 114,0,0=>some {tmps:=[0,1,7,8],loops:=[],dead:=[],bm:=[]}
 | _,_,_=>none
noncomputable def HA (x:bq):Int:=gh (TC.kP (.int .i64)) (iE x) (m0 x)
def zP (x:bq):Prop:=∃ r,Ends (iE x) r (m0 x)
noncomputable def m8:Spec:={eX:=(.st (.slice (.int .u8)) (.bu (.int .u8))),cB:=(.int .i64),n:=1,pre:=zP,f:=HA}
noncomputable def nq:FuncId→Option Spec
 | _=>none
theorem F0:∀ f sp,nq f=some sp→ah aA f sp:=by
 intro f sp h
 unfold nq at h
 split at h
 ·cases h
section
variable (W:cM) (Q:Int→Prop) (x:bq)
theorem Qw:run (env nq (fun _=>none) false (fun _ _=>none)) zi (bE m8 Q) W 100000 (bl 114 Tryz.f114 (ag Tryz.f114) (bp (.st (.slice (.int .u8)) (.bu (.int .u8))) x)) [] []=(m0 x).wp (cw W Q (iJ x)):=by kernel_rfl
theorem K4 (v2 v3:Int):run (env nq (fun _=>none) false (fun _ _=>none)) zi (bE m8 Q) W 100000 (iJ x (.h0 v2 v3)).fr.enter (iJ x (.h0 v2 v3)).bm (iJ x (.h0 v2 v3)).H=(iE x (.h0 v2 v3)).wp (cw W Q (iJ x)):=by kernel_rfl
end
theorem Nk (W:cM) (Q:Int→Prop) (x:bq):∀ j:M4,run (env nq (fun _=>none) false (fun _ _=>none)) zi (bE m8 Q) W 100000 (iJ x j).fr.enter (iJ x j).bm (iJ x j).H=(iE x j).wp (cw W Q (iJ x))
 | .h0 v2 v3=>K4 W Q x v2 v3
theorem VV:ah aA 114 m8:=ah.env rfl (fun _ _ h=>h) (dF (E:=(env nq (fun _=>none) false (fun _ _=>none))) (sp:=m8) (valid _ _ _ _) ⟨fun f sp h=>ah.env rfl (fun _ _ h=>h) (F0 f sp h),fun f ps h=>nomatch h⟩ (fn:=Tryz.f114) (c:=(ag Tryz.f114)) (by kernel_rfl) (by kernel_rfl) m0 iE iJ Qw Nk (fun _ h=>dI h))
noncomputable def sG (x:Int):Tr DO:=
 .ret (1,(x,((-1),((-1),(0,(0,(false,0)))))))
noncomputable def w9 (x:Int):DO:=(sG x).val
def zL (x:Int):Prop:=(sG x).ok
noncomputable def oW:Spec:={eX:=(.bu (.int .i64)),cB:=CO,n:=1,pre:=zL,f:=w9}
noncomputable def uk:FuncId→Option Spec
 | _=>none
theorem FG:∀ f sp,uk f=some sp→ah aA f sp:=by
 intro f sp h
 unfold uk at h
 split at h
 ·cases h
section
variable (W:cM) (Q:DO→Prop) (x:Int)
theorem Qd:run (env uk (fun _=>none) false (fun _ _=>none)) (fun _ _ _=>none) (bE oW Q) W 100000 (bl 158 Tryz.f158 (ag Tryz.f158) (bp (.bu (.int .i64)) x)) [] []=(sG x).wp Q:=by kernel_rfl
end
theorem Pz:ah aA 158 oW:=ah.env rfl (fun _ _ h=>h) (aG (E:=(env uk (fun _=>none) false (fun _ _=>none))) (sp:=oW) (valid _ _ _ _) ⟨fun f sp h=>ah.env rfl (fun _ _ h=>h) (FG f sp h),fun f ps h=>nomatch h⟩ (fn:=Tryz.f158) (c:=(ag Tryz.f158)) (by kernel_rfl) (by kernel_rfl) sG Qd (fun _ h=>Tr.an h))
noncomputable def mN (x:DO):Tr Bool:=
 let y0:(Int×(Int×(Int×(Bool×Int)))):=x.2.2.2
 .ite (cF y0.1 0) (
 let y1:=y0.2.1
 .ret (ak y1 1)) (
 let y2:=y0.2.1
 .ite ((cj 1 y2)==true) (
 .ite ((cj y2 8)==true) (
 .ret (ak (cP .i64 y2 (iu .i64 y2 1)) 0)) (
 .ret false)) (
 .ret false))
noncomputable def Hx (x:DO):Bool:=(mN x).val
def zK (x:DO):Prop:=(mN x).ok
noncomputable def sO:Spec:={eX:=(.bu CO),cB:=.bool,n:=1,pre:=zK,f:=Hx}
noncomputable def uj:FuncId→Option Spec
 | _=>none
theorem FE:∀ f sp,uj f=some sp→ah aA f sp:=by
 intro f sp h
 unfold uj at h
 split at h
 ·cases h
section
variable (W:cM) (Q:Bool→Prop) (x:DO)
theorem Qc:run (env uj (fun _=>none) false (fun _ _=>none)) (fun _ _ _=>none) (bE sO Q) W 100000 (bl 160 Tryz.f160 (ag Tryz.f160) (bp (.bu CO) x)) [] []=(mN x).wp Q:=by kernel_rfl
end
theorem VK:ah aA 160 sO:=ah.env rfl (fun _ _ h=>h) (aG (E:=(env uj (fun _=>none) false (fun _ _=>none))) (sp:=sO) (valid _ _ _ _) ⟨fun f sp h=>ah.env rfl (fun _ _ h=>h) (FE f sp h),fun f ps h=>nomatch h⟩ (fn:=Tryz.f160) (c:=(ag Tryz.f160)) (by kernel_rfl) (by kernel_rfl) mN Qc (fun _ h=>Tr.an h))
noncomputable def mP (x:DO):Tr Bool:=
 .ite (ak x.1 1) (
 let y0:=x.2.1
 .ite ((cj 0 y0)==true) (
 .ite ((cF y0 16)==true) (
 .aa (zL y0)<|
 .ret (dB CO x (w9 y0))) (
 .ret false)) (
 .ret false)) (
 .ite ((dG x.1 2)==false) (
 let y1:=x.2.1
 .ite ((dG y1 0)==false) (
 let y2:=x.2.2
 let y3:=y2.2
 let y4:=y3.2
 let y5:=y4.2
 let y6:=y5.2
 .ite ((dG y6.2 0)==false) (
 let y7:=y5.1
 .ite (dG (aN .i64 (aN .i32 y7)) y7) (
 .ret false) (
 .ite y6.1 (
 let y8:=y2.1
 .ite ((ak y8 (-1))==true) (
 let y9:=y3.1
 .ite ((ak y9 (-1))==true) (
 .ret (ak y4.1 1)) (
 .ret false)) (
 .ret false)) (
 let y10:=y2.1
 .ite ((cj (-1) y10)==true) (
 .ite ((cF y10 16)==true) (
 let y11:=y3.1
 .ite ((cj (-1) y11)==true) (
 .ite ((cF y11 16)==true) (
 .ite ((dG y11 4)==true) (
 .aa (zK x)<|
 .ret (Hx x)) (
 .ret false)) (
 .ret false)) (
 .ret false)) (
 .ret false)) (
 .ret false)))) (
 .ret false)) (
 .ret false)) (
 .ret false))
noncomputable def iS (x:DO):Bool:=(mP x).val
def rp (x:DO):Prop:=(mP x).ok
noncomputable def m6:Spec:={eX:=(.bu CO),cB:=.bool,n:=1,pre:=rp,f:=iS}
noncomputable def uq:FuncId→Option Spec
 | 158=>some oW
 | 160=>some sO
 | _=>none
theorem FJ:∀ f sp,uq f=some sp→ah aA f sp:=by
 intro f sp h
 unfold uq at h
 split at h
 ·cases h;exact Pz
 ·cases h;exact VK
 ·cases h
section
variable (W:cM) (Q:Bool→Prop) (x:DO)
theorem Qg:run (env uq (fun _=>none) false (fun _ _=>none)) (fun _ _ _=>none) (bE m6 Q) W 100000 (bl 155 Tryz.f155 (ag Tryz.f155) (bp (.bu CO) x)) [] []=(mP x).wp Q:=by kernel_rfl
end
theorem LY:ah aA 155 m6:=ah.env rfl (fun _ _ h=>h) (aG (E:=(env uq (fun _=>none) false (fun _ _=>none))) (sp:=m6) (valid _ _ _ _) ⟨fun f sp h=>ah.env rfl (fun _ _ h=>h) (FJ f sp h),fun f ps h=>nomatch h⟩ (fn:=Tryz.f155) (c:=(ag Tryz.f155)) (by kernel_rfl) (by kernel_rfl) mP Qg (fun _ h=>Tr.an h))
noncomputable def sK (x:DO):Tr Bool:=
 .aa (rp x)<|
 .ret (iS x)
noncomputable def eC (x:DO):Bool:=(sK x).val
def dq (x:DO):Prop:=(sK x).ok
noncomputable def sY:Spec:={eX:=(.bu CO),cB:=.bool,n:=1,pre:=dq,f:=eC}
noncomputable def uH:FuncId→Option Spec
 | 155=>some m6
 | _=>none
theorem FZ:∀ f sp,uH f=some sp→ah aA f sp:=by
 intro f sp h
 unfold uH at h
 split at h
 ·cases h;exact LY
 ·cases h
section
variable (W:cM) (Q:Bool→Prop) (x:DO)
theorem Qv:run (env uH (fun _=>none) false (fun _ _=>none)) (fun _ _ _=>none) (bE sY Q) W 100000 (bl 116 Tryz.f116 (ag Tryz.f116) (bp (.bu CO) x)) [] []=(sK x).wp Q:=by kernel_rfl
end
theorem VU:ah aA 116 sY:=ah.env rfl (fun _ _ h=>h) (aG (E:=(env uH (fun _=>none) false (fun _ _=>none))) (sp:=sY) (valid _ _ _ _) ⟨fun f sp h=>ah.env rfl (fun _ _ h=>h) (FZ f sp h),fun f ps h=>nomatch h⟩ (fn:=Tryz.f116) (c:=(ag Tryz.f116)) (by kernel_rfl) (by kernel_rfl) sK Qv (fun _ h=>Tr.an h))
noncomputable def mZ (x:DO):Tr Bool:=
 .ite ((ak x.1 1)==true) (
 .aa (rp x)<|
 .ret (iS x)) (
 .ret false)
noncomputable def ez (x:DO):Bool:=(mZ x).val
def dn (x:DO):Prop:=(mZ x).ok
noncomputable def sX:Spec:={eX:=(.bu CO),cB:=.bool,n:=1,pre:=dn,f:=ez}
noncomputable def uG:FuncId→Option Spec
 | 155=>some m6
 | _=>none
theorem FY:∀ f sp,uG f=some sp→ah aA f sp:=by
 intro f sp h
 unfold uG at h
 split at h
 ·cases h;exact LY
 ·cases h
section
variable (W:cM) (Q:Bool→Prop) (x:DO)
theorem Qu:run (env uG (fun _=>none) false (fun _ _=>none)) (fun _ _ _=>none) (bE sX Q) W 100000 (bl 117 Tryz.f117 (ag Tryz.f117) (bp (.bu CO) x)) [] []=(mZ x).wp Q:=by kernel_rfl
end
theorem VT:ah aA 117 sX:=ah.env rfl (fun _ _ h=>h) (aG (E:=(env uG (fun _=>none) false (fun _ _=>none))) (sp:=sX) (valid _ _ _ _) ⟨fun f sp h=>ah.env rfl (fun _ _ h=>h) (FY f sp h),fun f ps h=>nomatch h⟩ (fn:=Tryz.f117) (c:=(ag Tryz.f117)) (by kernel_rfl) (by kernel_rfl) mZ Qu (fun _ h=>Tr.an h))
noncomputable def mY (x:DO):Tr Bool:=
 .ite ((ak x.1 2)==true) (
 .aa (rp x)<|
 .ret (iS x)) (
 .ret false)
noncomputable def pN (x:DO):Bool:=(mY x).val
def lx (x:DO):Prop:=(mY x).ok
noncomputable def oY:Spec:={eX:=(.bu CO),cB:=.bool,n:=1,pre:=lx,f:=pN}
noncomputable def uF:FuncId→Option Spec
 | 155=>some m6
 | _=>none
theorem FX:∀ f sp,uF f=some sp→ah aA f sp:=by
 intro f sp h
 unfold uF at h
 split at h
 ·cases h;exact LY
 ·cases h
section
variable (W:cM) (Q:Bool→Prop) (x:DO)
theorem Qt:run (env uF (fun _=>none) false (fun _ _=>none)) (fun _ _ _=>none) (bE oY Q) W 100000 (bl 118 Tryz.f118 (ag Tryz.f118) (bp (.bu CO) x)) [] []=(mY x).wp Q:=by kernel_rfl
end
theorem PB:ah aA 118 oY:=ah.env rfl (fun _ _ h=>h) (aG (E:=(env uF (fun _=>none) false (fun _ _=>none))) (sp:=oY) (valid _ _ _ _) ⟨fun f sp h=>ah.env rfl (fun _ _ h=>h) (FX f sp h),fun f ps h=>nomatch h⟩ (fn:=Tryz.f118) (c:=(ag Tryz.f118)) (by kernel_rfl) (by kernel_rfl) mY Qt (fun _ h=>Tr.an h))
noncomputable def sF (x:Int):Tr DO:=
 .ret (3,(0,((-1),((-1),(0,(0,(false,x)))))))
noncomputable def Hw (x:Int):DO:=(sF x).val
def EB (x:Int):Prop:=(sF x).ok
noncomputable def sN:Spec:={eX:=(.bu (.int .i64)),cB:=CO,n:=1,pre:=EB,f:=Hw}
noncomputable def ug:FuncId→Option Spec
 | _=>none
theorem FD:∀ f sp,ug f=some sp→ah aA f sp:=by
 intro f sp h
 unfold ug at h
 split at h
 ·cases h
section
variable (W:cM) (Q:DO→Prop) (x:Int)
theorem Qb:run (env ug (fun _=>none) false (fun _ _=>none)) (fun _ _ _=>none) (bE sN Q) W 100000 (bl 161 Tryz.f161 (ag Tryz.f161) (bp (.bu (.int .i64)) x)) [] []=(sF x).wp Q:=by kernel_rfl
end
theorem VJ:ah aA 161 sN:=ah.env rfl (fun _ _ h=>h) (aG (E:=(env ug (fun _=>none) false (fun _ _=>none))) (sp:=sN) (valid _ _ _ _) ⟨fun f sp h=>ah.env rfl (fun _ _ h=>h) (FD f sp h),fun f ps h=>nomatch h⟩ (fn:=Tryz.f161) (c:=(ag Tryz.f161)) (by kernel_rfl) (by kernel_rfl) sF Qb (fun _ h=>Tr.an h))
noncomputable def mO (x:DO):Tr Bool:=
 .ite ((ak x.1 3)==true) (
 let y0:=x.2.2.2.2.2.2.2
 .aa (EB y0)<|
 .ret (dB CO x (Hw y0))) (
 .ret false)
noncomputable def xa (x:DO):Bool:=(mO x).val
def ox (x:DO):Prop:=(mO x).ok
noncomputable def lj:Spec:={eX:=(.bu CO),cB:=.bool,n:=1,pre:=ox,f:=xa}
noncomputable def uo:FuncId→Option Spec
 | 161=>some sN
 | _=>none
theorem FI:∀ f sp,uo f=some sp→ah aA f sp:=by
 intro f sp h
 unfold uo at h
 split at h
 ·cases h;exact VJ
 ·cases h
section
variable (W:cM) (Q:Bool→Prop) (x:DO)
theorem Qf:run (env uo (fun _=>none) false (fun _ _=>none)) (fun _ _ _=>none) (bE lj Q) W 100000 (bl 156 Tryz.f156 (ag Tryz.f156) (bp (.bu CO) x)) [] []=(mO x).wp Q:=by kernel_rfl
end
theorem G5:ah aA 156 lj:=ah.env rfl (fun _ _ h=>h) (aG (E:=(env uo (fun _=>none) false (fun _ _=>none))) (sp:=lj) (valid _ _ _ _) ⟨fun f sp h=>ah.env rfl (fun _ _ h=>h) (FI f sp h),fun f ps h=>nomatch h⟩ (fn:=Tryz.f156) (c:=(ag Tryz.f156)) (by kernel_rfl) (by kernel_rfl) mO Qf (fun _ h=>Tr.an h))
noncomputable def mX (x:DO):Tr Bool:=
 .aa (ox x)<|
 .ite ((xa x)==true) (
 let y0:=x.2.2.2.2.2.2.2
 .ret (ak (aN .i64 (aN .i8 y0)) y0)) (
 .ret false)
noncomputable def DK (x:DO):Bool:=(mX x).val
def wI (x:DO):Prop:=(mX x).ok
noncomputable def sW:Spec:={eX:=(.bu CO),cB:=.bool,n:=1,pre:=wI,f:=DK}
noncomputable def uE:FuncId→Option Spec
 | 156=>some lj
 | _=>none
theorem FW:∀ f sp,uE f=some sp→ah aA f sp:=by
 intro f sp h
 unfold uE at h
 split at h
 ·cases h;exact G5
 ·cases h
section
variable (W:cM) (Q:Bool→Prop) (x:DO)
theorem Qs:run (env uE (fun _=>none) false (fun _ _=>none)) (fun _ _ _=>none) (bE sW Q) W 100000 (bl 119 Tryz.f119 (ag Tryz.f119) (bp (.bu CO) x)) [] []=(mX x).wp Q:=by kernel_rfl
end
theorem VS:ah aA 119 sW:=ah.env rfl (fun _ _ h=>h) (aG (E:=(env uE (fun _=>none) false (fun _ _=>none))) (sp:=sW) (valid _ _ _ _) ⟨fun f sp h=>ah.env rfl (fun _ _ h=>h) (FW f sp h),fun f ps h=>nomatch h⟩ (fn:=Tryz.f119) (c:=(ag Tryz.f119)) (by kernel_rfl) (by kernel_rfl) mX Qs (fun _ h=>Tr.an h))
noncomputable def mW (x:DO):Tr Bool:=
 .aa (ox x)<|
 .ite ((xa x)==true) (
 let y0:=x.2.2.2.2.2.2.2
 .ret (ak (aN .i64 (aN .i32 y0)) y0)) (
 .ret false)
noncomputable def eQ (x:DO):Bool:=(mW x).val
def dD (x:DO):Prop:=(mW x).ok
noncomputable def sV:Spec:={eX:=(.bu CO),cB:=.bool,n:=1,pre:=dD,f:=eQ}
noncomputable def uD:FuncId→Option Spec
 | 156=>some lj
 | _=>none
theorem FV:∀ f sp,uD f=some sp→ah aA f sp:=by
 intro f sp h
 unfold uD at h
 split at h
 ·cases h;exact G5
 ·cases h
section
variable (W:cM) (Q:Bool→Prop) (x:DO)
theorem Qq:run (env uD (fun _=>none) false (fun _ _=>none)) (fun _ _ _=>none) (bE sV Q) W 100000 (bl 120 Tryz.f120 (ag Tryz.f120) (bp (.bu CO) x)) [] []=(mW x).wp Q:=by kernel_rfl
end
theorem VR:ah aA 120 sV:=ah.env rfl (fun _ _ h=>h) (aG (E:=(env uD (fun _=>none) false (fun _ _=>none))) (sp:=sV) (valid _ _ _ _) ⟨fun f sp h=>ah.env rfl (fun _ _ h=>h) (FV f sp h),fun f ps h=>nomatch h⟩ (fn:=Tryz.f120) (c:=(ag Tryz.f120)) (by kernel_rfl) (by kernel_rfl) mW Qq (fun _ h=>Tr.an h))
noncomputable def sH (x:Int):Tr DO:=
 .ret (1,((aK .i64 (cP .i64 x 15) 16),((-1),((-1),(0,(0,(false,0)))))))
noncomputable def Hy (x:Int):DO:=(sH x).val
def EC (x:Int):Prop:=(sH x).ok
noncomputable def sP:Spec:={eX:=(.bu (.int .i64)),cB:=CO,n:=1,pre:=EC,f:=Hy}
noncomputable def um:FuncId→Option Spec
 | _=>none
theorem FH:∀ f sp,um f=some sp→ah aA f sp:=by
 intro f sp h
 unfold um at h
 split at h
 ·cases h
section
variable (W:cM) (Q:DO→Prop) (x:Int)
theorem Qe:run (env um (fun _=>none) false (fun _ _=>none)) (fun _ _ _=>none) (bE sP Q) W 100000 (bl 157 Tryz.f157 (ag Tryz.f157) (bp (.bu (.int .i64)) x)) [] []=(sH x).wp Q:=by kernel_rfl
end
theorem VL:ah aA 157 sP:=ah.env rfl (fun _ _ h=>h) (aG (E:=(env um (fun _=>none) false (fun _ _=>none))) (sp:=sP) (valid _ _ _ _) ⟨fun f sp h=>ah.env rfl (fun _ _ h=>h) (FH f sp h),fun f ps h=>nomatch h⟩ (fn:=Tryz.f157) (c:=(ag Tryz.f157)) (by kernel_rfl) (by kernel_rfl) sH Qe (fun _ h=>Tr.an h))
noncomputable def mV (x:DO):Tr Bool:=
 .ite ((ak x.1 1)==true) (
 let y0:=x.2.1
 .ite ((ak (jZ .i64 y0 15) 16)==true) (
 .aa (EC y0)<|
 .ret (dB CO x (Hy y0))) (
 .ret false)) (
 .ret false)
noncomputable def nS (x:DO):Bool:=(mV x).val
def kg (x:DO):Prop:=(mV x).ok
noncomputable def oX:Spec:={eX:=(.bu CO),cB:=.bool,n:=1,pre:=kg,f:=nS}
noncomputable def uC:FuncId→Option Spec
 | 157=>some sP
 | _=>none
theorem FU:∀ f sp,uC f=some sp→ah aA f sp:=by
 intro f sp h
 unfold uC at h
 split at h
 ·cases h;exact VL
 ·cases h
section
variable (W:cM) (Q:Bool→Prop) (x:DO)
theorem Qp:run (env uC (fun _=>none) false (fun _ _=>none)) (fun _ _ _=>none) (bE oX Q) W 100000 (bl 123 Tryz.f123 (ag Tryz.f123) (bp (.bu CO) x)) [] []=(mV x).wp Q:=by kernel_rfl
end
theorem PA:ah aA 123 oX:=ah.env rfl (fun _ _ h=>h) (aG (E:=(env uC (fun _=>none) false (fun _ _=>none))) (sp:=oX) (valid _ _ _ _) ⟨fun f sp h=>ah.env rfl (fun _ _ h=>h) (FU f sp h),fun f ps h=>nomatch h⟩ (fn:=Tryz.f123) (c:=(ag Tryz.f123)) (by kernel_rfl) (by kernel_rfl) mV Qp (fun _ h=>Tr.an h))
noncomputable def mU (x:DO):Tr Bool:=
 .aa (kg x)<|
 .ite ((nS x)==false) (
 .aa (lx x)<|
 .ret (pN x)) (
 .ret true)
noncomputable def si (x:DO):Bool:=(mU x).val
def ml (x:DO):Prop:=(mU x).ok
noncomputable def sU:Spec:={eX:=(.bu CO),cB:=.bool,n:=1,pre:=ml,f:=si}
noncomputable def uB:FuncId→Option Spec
 | 118=>some oY
 | 123=>some oX
 | _=>none
theorem FT:∀ f sp,uB f=some sp→ah aA f sp:=by
 intro f sp h
 unfold uB at h
 split at h
 ·cases h;exact PB
 ·cases h;exact PA
 ·cases h
section
variable (W:cM) (Q:Bool→Prop) (x:DO)
theorem Qo:run (env uB (fun _=>none) false (fun _ _=>none)) (fun _ _ _=>none) (bE sU Q) W 100000 (bl 124 Tryz.f124 (ag Tryz.f124) (bp (.bu CO) x)) [] []=(mU x).wp Q:=by kernel_rfl
end
theorem VQ:ah aA 124 sU:=ah.env rfl (fun _ _ h=>h) (aG (E:=(env uB (fun _=>none) false (fun _ _=>none))) (sp:=sU) (valid _ _ _ _) ⟨fun f sp h=>ah.env rfl (fun _ _ h=>h) (FT f sp h),fun f ps h=>nomatch h⟩ (fn:=Tryz.f124) (c:=(ag Tryz.f124)) (by kernel_rfl) (by kernel_rfl) mU Qo (fun _ h=>Tr.an h))
noncomputable def mS (x:DO):Tr Bool:=
 .aa (ox x)<|
 .ite ((xa x)==true) (
 let y0:=x.2.2.2.2.2.2.2
 .ret (ak (aN .i64 (aN .u8 y0)) y0)) (
 .ret false)
noncomputable def sg (x:DO):Bool:=(mS x).val
def mj (x:DO):Prop:=(mS x).ok
noncomputable def sS:Spec:={eX:=(.bu CO),cB:=.bool,n:=1,pre:=mj,f:=sg}
noncomputable def uA:FuncId→Option Spec
 | 156=>some lj
 | _=>none
theorem FR:∀ f sp,uA f=some sp→ah aA f sp:=by
 intro f sp h
 unfold uA at h
 split at h
 ·cases h;exact G5
 ·cases h
section
variable (W:cM) (Q:Bool→Prop) (x:DO)
theorem Qn:run (env uA (fun _=>none) false (fun _ _=>none)) (fun _ _ _=>none) (bE sS Q) W 100000 (bl 126 Tryz.f126 (ag Tryz.f126) (bp (.bu CO) x)) [] []=(mS x).wp Q:=by kernel_rfl
end
theorem VP:ah aA 126 sS:=ah.env rfl (fun _ _ h=>h) (aG (E:=(env uA (fun _=>none) false (fun _ _=>none))) (sp:=sS) (valid _ _ _ _) ⟨fun f sp h=>ah.env rfl (fun _ _ h=>h) (FR f sp h),fun f ps h=>nomatch h⟩ (fn:=Tryz.f126) (c:=(ag Tryz.f126)) (by kernel_rfl) (by kernel_rfl) mS Qn (fun _ h=>Tr.an h))
noncomputable def sJ (x:DO):Tr Bool:=
 .aa (zL 1)<|
 .ret (dB CO x (w9 1))
noncomputable def Ms (x:DO):Bool:=(sJ x).val
def ED (x:DO):Prop:=(sJ x).ok
noncomputable def sR:Spec:={eX:=(.bu CO),cB:=.bool,n:=1,pre:=ED,f:=Ms}
noncomputable def uz:FuncId→Option Spec
 | 158=>some oW
 | _=>none
theorem FQ:∀ f sp,uz f=some sp→ah aA f sp:=by
 intro f sp h
 unfold uz at h
 split at h
 ·cases h;exact Pz
 ·cases h
section
variable (W:cM) (Q:Bool→Prop) (x:DO)
theorem Qm:run (env uz (fun _=>none) false (fun _ _=>none)) (fun _ _ _=>none) (bE sR Q) W 100000 (bl 127 Tryz.f127 (ag Tryz.f127) (bp (.bu CO) x)) [] []=(sJ x).wp Q:=by kernel_rfl
end
theorem VO:ah aA 127 sR:=ah.env rfl (fun _ _ h=>h) (aG (E:=(env uz (fun _=>none) false (fun _ _=>none))) (sp:=sR) (valid _ _ _ _) ⟨fun f sp h=>ah.env rfl (fun _ _ h=>h) (FQ f sp h),fun f ps h=>nomatch h⟩ (fn:=Tryz.f127) (c:=(ag Tryz.f127)) (by kernel_rfl) (by kernel_rfl) sJ Qm (fun _ h=>Tr.an h))
noncomputable def sI (x:DO):Tr Bool:=
 .ret (dB CO x (0,(0,(0,(0,(0,(0,(false,0))))))))
noncomputable def bH (x:DO):Bool:=(sI x).val
def a8 (x:DO):Prop:=(sI x).ok
noncomputable def sQ:Spec:={eX:=(.bu CO),cB:=.bool,n:=1,pre:=a8,f:=bH}
noncomputable def uw:FuncId→Option Spec
 | _=>none
theorem FP:∀ f sp,uw f=some sp→ah aA f sp:=by
 intro f sp h
 unfold uw at h
 split at h
 ·cases h
section
variable (W:cM) (Q:Bool→Prop) (x:DO)
theorem Ql:run (env uw (fun _=>none) false (fun _ _=>none)) (fun _ _ _=>none) (bE sQ Q) W 100000 (bl 141 Tryz.f141 (ag Tryz.f141) (bp (.bu CO) x)) [] []=(sI x).wp Q:=by kernel_rfl
end
theorem VN:ah aA 141 sQ:=ah.env rfl (fun _ _ h=>h) (aG (E:=(env uw (fun _=>none) false (fun _ _=>none))) (sp:=sQ) (valid _ _ _ _) ⟨fun f sp h=>ah.env rfl (fun _ _ h=>h) (FP f sp h),fun f ps h=>nomatch h⟩ (fn:=Tryz.f141) (c:=(ag Tryz.f141)) (by kernel_rfl) (by kernel_rfl) sI Ql (fun _ h=>Tr.an h))
inductive M3 where
 | h0 (v2:Int) (v3:Int)
noncomputable def mQ (x:bq):Tr (M3⊕Int):=
 .ret (.inl (.h0 (x.1.length:Int) 0))
noncomputable def iD (x:bq):M3→Tr (M3⊕Int)
 | .h0 v2 v3=>
 .ite (cF v3 v2) (
 .aa ((0:Int)≤v3)<|
 .aa (v3 < (x.1.length:Int))<|
 .ite (ak x.2 (eZ (.int .i64) x.1 (v3).toNat)) (
 .ret (.inr v3)) (
 .ret (.inl (.h0 v2 (aK .i64 v3 1))))) (
 .ret (.inr (-1)))
noncomputable def iI (x:bq):M3→Head
 | .h0 v2 v3=>
 {fr:={id:=151,kind:=.top,T:=[(.gf (.int .i64) x.1),(.int .i64 x.2)]++List.replicate 5 .any++[(.int .i64 v2),(.int .i64 v3)]++List.replicate 10 .any,items:=[.lp (ay [1,0,1,0,0] (ag Tryz.f151)),.a6 0,.code (ay [1,1] (ag Tryz.f151))],D:=[],base:=0},
  bm:=[],
  H:=[]}
noncomputable def zh:FuncId→Nat→Nat→Option Cut
 | 151,0,0=>some {tmps:=[0,1,7,8],loops:=[],dead:=[],bm:=[]}
 | _,_,_=>none
noncomputable def Hz (x:bq):Int:=gh (TC.kP (.int .i64)) (iD x) (mQ x)
def LI (x:bq):Prop:=∃ r,Ends (iD x) r (mQ x)
noncomputable def m7:Spec:={eX:=(.st (.slice (.int .i64)) (.bu (.int .i64))),cB:=(.int .i64),n:=1,pre:=LI,f:=Hz}
noncomputable def np:FuncId→Option Spec
 | _=>none
theorem FO:∀ f sp,np f=some sp→ah aA f sp:=by
 intro f sp h
 unfold np at h
 split at h
 ·cases h
section
variable (W:cM) (Q:Int→Prop) (x:bq)
theorem Qk:run (env np (fun _=>none) false (fun _ _=>none)) zh (bE m7 Q) W 100000 (bl 151 Tryz.f151 (ag Tryz.f151) (bp (.st (.slice (.int .i64)) (.bu (.int .i64))) x)) [] []=(mQ x).wp (cw W Q (iI x)):=by kernel_rfl
theorem K3 (v2 v3:Int):run (env np (fun _=>none) false (fun _ _=>none)) zh (bE m7 Q) W 100000 (iI x (.h0 v2 v3)).fr.enter (iI x (.h0 v2 v3)).bm (iI x (.h0 v2 v3)).H=(iD x (.h0 v2 v3)).wp (cw W Q (iI x)):=by kernel_rfl
end
theorem Nj (W:cM) (Q:Int→Prop) (x:bq):∀ j:M3,run (env np (fun _=>none) false (fun _ _=>none)) zh (bE m7 Q) W 100000 (iI x j).fr.enter (iI x j).bm (iI x j).H=(iD x j).wp (cw W Q (iI x))
 | .h0 v2 v3=>K3 W Q x v2 v3
theorem VM:ah aA 151 m7:=ah.env rfl (fun _ _ h=>h) (dF (E:=(env np (fun _=>none) false (fun _ _=>none))) (sp:=m7) (valid _ _ _ _) ⟨fun f sp h=>ah.env rfl (fun _ _ h=>h) (FO f sp h),fun f ps h=>nomatch h⟩ (fn:=Tryz.f151) (c:=(ag Tryz.f151)) (by kernel_rfl) (by kernel_rfl) mQ iD iI Qk Nj (fun _ h=>dI h))
noncomputable def sM (x:bq):Tr Bool:=
 .aa (LI x)<|
 .ret (cj 0 (Hz x))
noncomputable def bf (x:bq):Bool:=(sM x).val
def aO (x:bq):Prop:=(sM x).ok
noncomputable def s6:Spec:={eX:=(.st (.slice (.int .i64)) (.bu (.int .i64))),cB:=.bool,n:=1,pre:=aO,f:=bf}
noncomputable def uO:FuncId→Option Spec
 | 151=>some m7
 | _=>none
theorem F7:∀ f sp,uO f=some sp→ah aA f sp:=by
 intro f sp h
 unfold uO at h
 split at h
 ·cases h;exact VM
 ·cases h
section
variable (W:cM) (Q:Bool→Prop) (x:bq)
theorem QD:run (env uO (fun _=>none) false (fun _ _=>none)) (fun _ _ _=>none) (bE s6 Q) W 100000 (bl 104 Tryz.f104 (ag Tryz.f104) (bp (.st (.slice (.int .i64)) (.bu (.int .i64))) x)) [] []=(sM x).wp Q:=by kernel_rfl
end
theorem VZ:ah aA 104 s6:=ah.env rfl (fun _ _ h=>h) (aG (E:=(env uO (fun _=>none) false (fun _ _=>none))) (sp:=s6) (valid _ _ _ _) ⟨fun f sp h=>ah.env rfl (fun _ _ h=>h) (F7 f sp h),fun f ps h=>nomatch h⟩ (fn:=Tryz.f104) (c:=(ag Tryz.f104)) (by kernel_rfl) (by kernel_rfl) sM QD (fun _ h=>Tr.an h))
end Go.bz.RL
end
