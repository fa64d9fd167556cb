/- A part of the proof that the laws of this seat hold. Conditions: none beyond the row. -/
import Derived.Test.YthkgokmfglphpaaGreatDoorEng2
import Derived.Test.YthkgokmfglphpaaGreatDoorProg
import Derived.KernelRfl
import Derived.Lib.LaidTab
import Derived.Stop.LaidErr
set_option maxRecDepth 100000
set_option linter.unusedVariables false
set_option linter.unusedSimpArgs false
set_option linter.unusedSectionVars false
section
namespace Go.aA.RV
open Go.Proofs Go.aA
@[reducible] def kh:TC:=(.st .str (.a7 (.int .u64)))
@[reducible] def aj:TC:=(.st .bool (.st (.int .i64) (.a7 (.int .u64))))
abbrev bl:Type:=(Bool×(Int×Int))
@[reducible] def rT:TC:=(.st (.int .i64) (.st (.int .i64) (.st .bool (.a7 (.int .u8)))))
@[reducible] def EB:TC:=(.st (.int .u8) (.st .bool (.st (.int .u8) (.st (.int .u8) (.st (.int .u8) (.a7 (.int .i64)))))))
abbrev lQ:Type:=(Int×(Bool×(Int×(Int×(Int×Int)))))
@[reducible] def CO:TC:=(.st (.int .u8) (.st (.int .i64) (.st (.int .i64) (.st (.int .i64) (.st (.int .i64) (.st (.int .i64) (.st .bool (.a7 (.int .i64)))))))))
abbrev DO:Type:=(Int×(Int×(Int×(Int×(Int×(Int×(Bool×Int)))))))
@[reducible] def xu:TC:=(.st (.int .i64) (.st .str (.st .str (.st (.int .u8) (.st (.slice (.int .u8)) (.st (.int .i64) (.st (.int .i64) (.a7 (.int .i64)))))))))
abbrev bh:Type:=(Int×(ByteArray×(ByteArray×(Int×((List Int)×(Int×(Int×Int)))))))
@[reducible] def bw:TC:=(.st (.int .u8) (.st (.int .u8) (.st (.int .i64) (.st CO (.st CO (.st (.int .u8) (.a7 (.int .i64))))))))
abbrev DI:Type:=(Int×(Int×(Int×(DO×(DO×(Int×Int))))))
@[reducible] def jk:TC:=(.st (.int .u8) (.st (.int .u8) (.st (.int .u8) (.st .bool (.st (.int .i64) (.st (.int .u8) (.st (.int .u8) (.st (.int .i64) (.st (.int .u8) (.st (.int .i64) (.st .bool (.st .bool (.st .bool (.a7 .bool))))))))))))))
abbrev DF:Type:=(Int×(Int×(Int×(Bool×(Int×(Int×(Int×(Int×(Int×(Int×(Bool×(Bool×(Bool×Bool)))))))))))))
@[reducible] def aP:TC:=(.st (.int .u8) (.st (.int .i64) (.st (.int .i64) (.st aj (.st aj (.st aj (.a7 bw)))))))
abbrev bX:Type:=(Int×(Int×(Int×(bl×(bl×(bl×DI))))))
abbrev pO:Type:=List DF
abbrev tD:Type:=Int×DO
abbrev xC:Type:=DI×Int
abbrev ai:Type:=List Int
abbrev k8:Type:=List bh
abbrev bt:Type:=Int×Int
abbrev aC:Type:=List bX
abbrev gT:Type:=bl×bl
abbrev B0:Type:=List bt
abbrev fk:Type:=List bX×Int
abbrev nE:Type:=ai×Int
abbrev qC:Type:=DO×bt
abbrev tE:Type:=List bX×bl
abbrev eZ:Type:=List bX×Unit
abbrev pP:Type:=Int×(List bl)
abbrev dC:Type:=Int×bt
abbrev qD:Type:=Bool×bt
abbrev Ae:Type:=aC×Unit
abbrev Af:Type:=aC×bl
abbrev Ag:Type:=bl×gT
abbrev Kj:Type:=Bool×(Bool×Bool)
abbrev B1:Type:=DO×qC
abbrev Kk:Type:=ai×bt
abbrev Kl:Type:=lQ×(DF×ai)
abbrev PD:Type:=List qD
abbrev xD:Type:=Int×pP
abbrev B2:Type:=Int×dC
abbrev Ah:Type:=aC×aC
abbrev tG:Type:=Bool×Kj
abbrev EZ:Type:=Int×B1
abbrev PE:Type:=Int×xD
abbrev IE:Type:=Int×(Int×(Int×(Bool×Int)))
abbrev B3:Type:=qD×gT
abbrev o6:Type:=Int×(bl×Ag)
abbrev tH:Type:=Int×tG
abbrev Km:Type:=Int×(Int×tH)
abbrev dY:Type:=Int×(Unit×o6)
abbrev jm:Type:=Int×(Int×(Int×IE))
abbrev bq:Type:=DI×dY
abbrev tI:Type:=Int×Km
abbrev Tj:Type:=Int×tI
abbrev V3:Type:=bq×fk
abbrev B4:Type:=(Int×(ByteArray×(ByteArray×(Int×(ai×dC)))))×Bool
abbrev gG:Type:=bq×eZ
abbrev Kn:Type:=bq×tE
abbrev B5:Type:=bq×(aC×Int)
abbrev vC:Type:=bq×Ae
abbrev gm:Type:=bq×Af
abbrev eL:Type:=(ai×(Int×Unit))×((Unit×(Unit×(ai×dC)))×Bool)
abbrev V4:Type:=bq×(aC×bt)
abbrev V5:Type:=bq×(List bX×gT)
abbrev tJ:Type:=bq×(aC×gT)
abbrev IF:Type:=(DI×(Int×(Unit×(Int×(bl×B3)))))×(aC×DO)
abbrev V6:Type:=bq×(List bX×(Int×gT))
abbrev PF:Type:=bq×(aC×(ai×bl))
abbrev pQ:Type:=bq×(aC×(DO×(bl×Int)))
abbrev V7:Type:=bq×(List bX×Ag)
abbrev jn:Type:=bq×(aC×(Int×gT))
abbrev V2:Type:=bq×(aC×Ag)
abbrev YZ:Type:=bq×(List bX×xD)
abbrev iC:Type:=bq×(aC×xD)
abbrev tY6:Type:=bq×(aC×(DO×(bl×(Int×bl))))
abbrev VN:Type:=(DI×(Int×(Unit×(Int×(qD×B3)))))×(aC×DO)
abbrev tF:Type:=bq×(aC×PE)
abbrev tY3:Type:=bq×(aC×(ai×Ag))
abbrev Ko:Type:=jm×(jm×(Int×Bool))
abbrev Y0:Type:=Int×(Int×(Int×(jm×(jm×bt))))
abbrev VO:Type:=Y0×Int
@[reducible] def Iz:TC:=(.st bw (.st (.int .i64) (.st (.slice aP) (.st (.int .u64) (.st aj (.st aj (.st aj (.a7 aj))))))))
noncomputable def ty:TypeId→Option ba
 | 1=>some {desc:=Tryz.t1.desc,size:=1,bytes:=8,zero:=(.raw .nilFunc),code:=none}
 | 2=>some {desc:=(.int .i64),size:=1,bytes:=8,zero:=(.int .i64 0),code:=(some (.int .i64))}
 | 3=>some {desc:=(.int .i64),size:=1,bytes:=8,zero:=(.int .i64 0),code:=(some (.int .i64))}
 | 4=>some {desc:=.bool,size:=1,bytes:=1,zero:=(.bool false),code:=(some .bool)}
 | 5=>some {desc:=(.int .u8),size:=1,bytes:=1,zero:=(.int .u8 0),code:=(some (.int .u8))}
 | 6=>some {desc:=(.int .u8),size:=1,bytes:=1,zero:=(.int .u8 0),code:=(some (.int .u8))}
 | 7=>some {desc:=Tryz.t7.desc,size:=4,bytes:=24,zero:=(.agg [1,1,1,1] [(.int .i64 0),(.int .i64 0),(.bool false),(.int .u8 0)]),code:=(some rT)}
 | 8=>some {desc:=Tryz.t7.desc,size:=4,bytes:=24,zero:=(.agg [1,1,1,1] [(.int .i64 0),(.int .i64 0),(.bool false),(.int .u8 0)]),code:=(some rT)}
 | 9=>some {desc:=.string,size:=1,bytes:=16,zero:=(.str ByteArray.empty),code:=(some .str)}
 | 10=>some {desc:=.string,size:=1,bytes:=16,zero:=(.str ByteArray.empty),code:=(some .str)}
 | 11=>some {desc:=.string,size:=1,bytes:=16,zero:=(.str ByteArray.empty),code:=(some .str)}
 | 12=>some {desc:=(.int .u64),size:=1,bytes:=8,zero:=(.int .u64 0),code:=(some (.int .u64))}
 | 13=>some {desc:=Tryz.t13.desc,size:=2,bytes:=24,zero:=(.agg [1,1] [(.str ByteArray.empty),(.int .u64 0)]),code:=(some kh)}
 | 14=>some {desc:=Tryz.t13.desc,size:=2,bytes:=24,zero:=(.agg [1,1] [(.str ByteArray.empty),(.int .u64 0)]),code:=(some kh)}
 | 15=>some {desc:=(.pointer 166),size:=1,bytes:=8,zero:=(.raw (.pointer none)),code:=none}
 | 16=>some {desc:=(.pointer 169),size:=1,bytes:=8,zero:=(.raw (.pointer none)),code:=none}
 | 17=>some {desc:=(.pointer 178),size:=1,bytes:=8,zero:=(.raw (.pointer none)),code:=none}
 | 18=>some {desc:=Tryz.t18.desc,size:=1,bytes:=8,zero:=(.agg [1] [(.raw (.pointer none))]),code:=none}
 | 19=>some {desc:=Tryz.t18.desc,size:=1,bytes:=8,zero:=(.agg [1] [(.raw (.pointer none))]),code:=none}
 | 20=>some {desc:=Tryz.t20.desc,size:=1,bytes:=16,zero:=(.raw .nilIface),code:=none}
 | 21=>some {desc:=(.int .i32),size:=1,bytes:=4,zero:=(.int .i32 0),code:=(some (.int .i32))}
 | 22=>some {desc:=(.slice 5),size:=1,bytes:=24,zero:=(.raw (.slice none 0 0)),code:=(some (.slice (.int .u8)))}
 | 23=>some {desc:=(.int .u64),size:=1,bytes:=8,zero:=(.int .u64 0),code:=(some (.int .u64))}
 | 24=>some {desc:=Tryz.t24.desc,size:=1,bytes:=8,zero:=(.raw .nilFunc),code:=none}
 | 25=>some {desc:=Tryz.t25.desc,size:=8,bytes:=64,zero:=(.agg [1,1,1,1,1,1,1,1] [(.int .u8 0),(.int .i64 0),(.int .i64 0),(.int .i64 0),(.int .i64 0),(.int .i64 0),(.bool false),(.int .i64 0)]),code:=(some CO)}
 | 26=>some {desc:=Tryz.t25.desc,size:=8,bytes:=64,zero:=(.agg [1,1,1,1,1,1,1,1] [(.int .u8 0),(.int .i64 0),(.int .i64 0),(.int .i64 0),(.int .i64 0),(.int .i64 0),(.bool false),(.int .i64 0)]),code:=(some CO)}
 | 27=>some {desc:=Tryz.t27.desc,size:=21,bytes:=160,zero:=(.agg [1,1,1,8,8,1,1] [(.int .u8 0),(.int .u8 0),(.int .i64 0),(.agg [1,1,1,1,1,1,1,1] [(.int .u8 0),(.int .i64 0),(.int .i64 0),(.int .i64 0),(.int .i64 0),(.int .i64 0),(.bool false),(.int .i64 0)]),(.agg [1,1,1,1,1,1,1,1] [(.int .u8 0),(.int .i64 0),(.int .i64 0),(.int .i64 0),(.int .i64 0),(.int .i64 0),(.bool false),(.int .i64 0)]),(.int .u8 0),(.int .i64 0)]),code:=(some bw)}
 | 28=>some {desc:=Tryz.t27.desc,size:=21,bytes:=160,zero:=(.agg [1,1,1,8,8,1,1] [(.int .u8 0),(.int .u8 0),(.int .i64 0),(.agg [1,1,1,1,1,1,1,1] [(.int .u8 0),(.int .i64 0),(.int .i64 0),(.int .i64 0),(.int .i64 0),(.int .i64 0),(.bool false),(.int .i64 0)]),(.agg [1,1,1,1,1,1,1,1] [(.int .u8 0),(.int .i64 0),(.int .i64 0),(.int .i64 0),(.int .i64 0),(.int .i64 0),(.bool false),(.int .i64 0)]),(.int .u8 0),(.int .i64 0)]),code:=(some bw)}
 | 29=>some {desc:=(.int .i64),size:=1,bytes:=8,zero:=(.int .i64 0),code:=(some (.int .i64))}
 | 31=>some {desc:=Tryz.t31.desc,size:=1,bytes:=8,zero:=(.raw .nilFunc),code:=none}
 | 33=>some {desc:=Tryz.t33.desc,size:=1,bytes:=8,zero:=(.raw .nilFunc),code:=none}
 | 34=>some {desc:=(.slice 42),size:=1,bytes:=24,zero:=(.raw (.slice none 0 0)),code:=(some (.slice aP))}
 | 36=>some {desc:=Tryz.t36.desc,size:=1,bytes:=8,zero:=(.raw .nilFunc),code:=none}
 | 37=>some {desc:=Tryz.t37.desc,size:=1,bytes:=8,zero:=(.raw .nilFunc),code:=none}
 | 38=>some {desc:=Tryz.t38.desc,size:=1,bytes:=8,zero:=(.raw .nilFunc),code:=none}
 | 39=>some {desc:=Tryz.t39.desc,size:=3,bytes:=24,zero:=(.agg [1,1,1] [(.bool false),(.int .i64 0),(.int .u64 0)]),code:=(some aj)}
 | 40=>some {desc:=Tryz.t39.desc,size:=3,bytes:=24,zero:=(.agg [1,1,1] [(.bool false),(.int .i64 0),(.int .u64 0)]),code:=(some aj)}
 | 41=>some {desc:=Tryz.t41.desc,size:=33,bytes:=256,zero:=(.agg [1,1,1,3,3,3,21] [(.int .u8 0),(.int .i64 0),(.int .i64 0),(.agg [1,1,1] [(.bool false),(.int .i64 0),(.int .u64 0)]),(.agg [1,1,1] [(.bool false),(.int .i64 0),(.int .u64 0)]),(.agg [1,1,1] [(.bool false),(.int .i64 0),(.int .u64 0)]),(.agg [1,1,1,8,8,1,1] [(.int .u8 0),(.int .u8 0),(.int .i64 0),(.agg [1,1,1,1,1,1,1,1] [(.int .u8 0),(.int .i64 0),(.int .i64 0),(.int .i64 0),(.int .i64 0),(.int .i64 0),(.bool false),(.int .i64 0)]),(.agg [1,1,1,1,1,1,1,1] [(.int .u8 0),(.int .i64 0),(.int .i64 0),(.int .i64 0),(.int .i64 0),(.int .i64 0),(.bool false),(.int .i64 0)]),(.int .u8 0),(.int .i64 0)])]),code:=(some aP)}
 | 42=>some {desc:=Tryz.t41.desc,size:=33,bytes:=256,zero:=(.agg [1,1,1,3,3,3,21] [(.int .u8 0),(.int .i64 0),(.int .i64 0),(.agg [1,1,1] [(.bool false),(.int .i64 0),(.int .u64 0)]),(.agg [1,1,1] [(.bool false),(.int .i64 0),(.int .u64 0)]),(.agg [1,1,1] [(.bool false),(.int .i64 0),(.int .u64 0)]),(.agg [1,1,1,8,8,1,1] [(.int .u8 0),(.int .u8 0),(.int .i64 0),(.agg [1,1,1,1,1,1,1,1] [(.int .u8 0),(.int .i64 0),(.int .i64 0),(.int .i64 0),(.int .i64 0),(.int .i64 0),(.bool false),(.int .i64 0)]),(.agg [1,1,1,1,1,1,1,1] [(.int .u8 0),(.int .i64 0),(.int .i64 0),(.int .i64 0),(.int .i64 0),(.int .i64 0),(.bool false),(.int .i64 0)]),(.int .u8 0),(.int .i64 0)])]),code:=(some aP)}
 | 43=>some {desc:=Tryz.t43.desc,size:=1,bytes:=8,zero:=(.raw .nilFunc),code:=none}
 | 44=>some {desc:=Tryz.t44.desc,size:=1,bytes:=8,zero:=(.raw .nilFunc),code:=none}
 | 45=>some {desc:=Tryz.t45.desc,size:=1,bytes:=8,zero:=(.raw .nilFunc),code:=none}
 | 46=>some {desc:=Tryz.t46.desc,size:=6,bytes:=16,zero:=(.agg [1,1,1,1,1,1] [(.int .u8 0),(.bool false),(.int .u8 0),(.int .u8 0),(.int .u8 0),(.int .i64 0)]),code:=(some EB)}
 | 47=>some {desc:=Tryz.t46.desc,size:=6,bytes:=16,zero:=(.agg [1,1,1,1,1,1] [(.int .u8 0),(.bool false),(.int .u8 0),(.int .u8 0),(.int .u8 0),(.int .i64 0)]),code:=(some EB)}
 | 49=>some {desc:=Tryz.t49.desc,size:=1,bytes:=8,zero:=(.raw .nilFunc),code:=none}
 | 50=>some {desc:=(.int .u64),size:=1,bytes:=8,zero:=(.int .u64 0),code:=(some (.int .u64))}
 | 51=>some {desc:=Tryz.t51.desc,size:=14,bytes:=56,zero:=(.agg [1,1,1,1,1,1,1,1,1,1,1,1,1,1] [(.int .u8 0),(.int .u8 0),(.int .u8 0),(.bool false),(.int .i64 0),(.int .u8 0),(.int .u8 0),(.int .i64 0),(.int .u8 0),(.int .i64 0),(.bool false),(.bool false),(.bool false),(.bool false)]),code:=(some jk)}
 | 52=>some {desc:=Tryz.t51.desc,size:=14,bytes:=56,zero:=(.agg [1,1,1,1,1,1,1,1,1,1,1,1,1,1] [(.int .u8 0),(.int .u8 0),(.int .u8 0),(.bool false),(.int .i64 0),(.int .u8 0),(.int .u8 0),(.int .i64 0),(.int .u8 0),(.int .i64 0),(.bool false),(.bool false),(.bool false),(.bool false)]),code:=(some jk)}
 | 54=>some {desc:=Tryz.t54.desc,size:=1,bytes:=8,zero:=(.raw .nilFunc),code:=none}
 | 55=>some {desc:=Tryz.t55.desc,size:=1,bytes:=8,zero:=(.raw .nilFunc),code:=none}
 | 57=>some {desc:=Tryz.t57.desc,size:=1,bytes:=8,zero:=(.raw .nilFunc),code:=none}
 | 58=>some {desc:=Tryz.t58.desc,size:=1,bytes:=8,zero:=(.raw .nilFunc),code:=none}
 | 59=>some {desc:=Tryz.t59.desc,size:=1,bytes:=8,zero:=(.raw .nilFunc),code:=none}
 | 60=>some {desc:=Tryz.t60.desc,size:=1,bytes:=8,zero:=(.raw .nilFunc),code:=none}
 | 61=>some {desc:=Tryz.t61.desc,size:=8,bytes:=96,zero:=(.agg [1,1,1,1,1,1,1,1] [(.int .i64 0),(.str ByteArray.empty),(.str ByteArray.empty),(.int .u8 0),(.raw (.slice none 0 0)),(.int .i64 0),(.int .i64 0),(.int .i64 0)]),code:=(some xu)}
 | 62=>some {desc:=Tryz.t61.desc,size:=8,bytes:=96,zero:=(.agg [1,1,1,1,1,1,1,1] [(.int .i64 0),(.str ByteArray.empty),(.str ByteArray.empty),(.int .u8 0),(.raw (.slice none 0 0)),(.int .i64 0),(.int .i64 0),(.int .i64 0)]),code:=(some xu)}
 | 64=>some {desc:=Tryz.t64.desc,size:=1,bytes:=8,zero:=(.raw .nilFunc),code:=none}
 | 65=>some {desc:=Tryz.t65.desc,size:=1,bytes:=8,zero:=(.raw .nilFunc),code:=none}
 | 67=>some {desc:=Tryz.t67.desc,size:=1,bytes:=8,zero:=(.raw .nilFunc),code:=none}
 | 68=>some {desc:=Tryz.t68.desc,size:=1,bytes:=8,zero:=(.raw .nilFunc),code:=none}
 | 69=>some {desc:=Tryz.t69.desc,size:=1,bytes:=8,zero:=(.raw .nilFunc),code:=none}
 | 70=>some {desc:=(.pointer 72),size:=1,bytes:=8,zero:=(.raw (.pointer none)),code:=none}
 | 71=>some {desc:=Tryz.t71.desc,size:=36,bytes:=296,zero:=(.agg [21,1,1,1,3,3,3,3] [(.agg [1,1,1,8,8,1,1] [(.int .u8 0),(.int .u8 0),(.int .i64 0),(.agg [1,1,1,1,1,1,1,1] [(.int .u8 0),(.int .i64 0),(.int .i64 0),(.int .i64 0),(.int .i64 0),(.int .i64 0),(.bool false),(.int .i64 0)]),(.agg [1,1,1,1,1,1,1,1] [(.int .u8 0),(.int .i64 0),(.int .i64 0),(.int .i64 0),(.int .i64 0),(.int .i64 0),(.bool false),(.int .i64 0)]),(.int .u8 0),(.int .i64 0)]),(.int .i64 0),(.raw (.slice none 0 0)),(.int .u64 0),(.agg [1,1,1] [(.bool false),(.int .i64 0),(.int .u64 0)]),(.agg [1,1,1] [(.bool false),(.int .i64 0),(.int .u64 0)]),(.agg [1,1,1] [(.bool false),(.int .i64 0),(.int .u64 0)]),(.agg [1,1,1] [(.bool false),(.int .i64 0),(.int .u64 0)])]),code:=(some Iz)}
 | 72=>some {desc:=Tryz.t71.desc,size:=36,bytes:=296,zero:=(.agg [21,1,1,1,3,3,3,3] [(.agg [1,1,1,8,8,1,1] [(.int .u8 0),(.int .u8 0),(.int .i64 0),(.agg [1,1,1,1,1,1,1,1] [(.int .u8 0),(.int .i64 0),(.int .i64 0),(.int .i64 0),(.int .i64 0),(.int .i64 0),(.bool false),(.int .i64 0)]),(.agg [1,1,1,1,1,1,1,1] [(.int .u8 0),(.int .i64 0),(.int .i64 0),(.int .i64 0),(.int .i64 0),(.int .i64 0),(.bool false),(.int .i64 0)]),(.int .u8 0),(.int .i64 0)]),(.int .i64 0),(.raw (.slice none 0 0)),(.int .u64 0),(.agg [1,1,1] [(.bool false),(.int .i64 0),(.int .u64 0)]),(.agg [1,1,1] [(.bool false),(.int .i64 0),(.int .u64 0)]),(.agg [1,1,1] [(.bool false),(.int .i64 0),(.int .u64 0)]),(.agg [1,1,1] [(.bool false),(.int .i64 0),(.int .u64 0)])]),code:=(some Iz)}
 | 73=>some {desc:=Tryz.t73.desc,size:=1,bytes:=8,zero:=(.raw .nilFunc),code:=none}
 | 74=>some {desc:=Tryz.t74.desc,size:=1,bytes:=8,zero:=(.raw .nilFunc),code:=none}
 | 76=>some {desc:=(.map 5 74),size:=1,bytes:=8,zero:=(.raw (.map none)),code:=none}
 | 77=>some {desc:=Tryz.t77.desc,size:=1,bytes:=8,zero:=(.raw .nilFunc),code:=none}
 | 78=>some {desc:=Tryz.t78.desc,size:=1,bytes:=8,zero:=(.raw .nilFunc),code:=none}
 | 79=>some {desc:=(.map 3 3),size:=1,bytes:=8,zero:=(.raw (.map none)),code:=none}
 | 80=>some {desc:=Tryz.t80.desc,size:=1,bytes:=8,zero:=(.raw .nilFunc),code:=none}
 | 81=>some {desc:=Tryz.t80.desc,size:=1,bytes:=8,zero:=(.raw .nilFunc),code:=none}
 | 82=>some {desc:=Tryz.t82.desc,size:=1,bytes:=8,zero:=(.raw .nilFunc),code:=none}
 | 83=>some {desc:=(.slice 52),size:=1,bytes:=24,zero:=(.raw (.slice none 0 0)),code:=(some (.slice jk))}
 | 84=>some {desc:=Tryz.t84.desc,size:=1,bytes:=8,zero:=(.raw .nilFunc),code:=none}
 | 85=>some {desc:=Tryz.t85.desc,size:=1,bytes:=8,zero:=(.raw .nilFunc),code:=none}
 | 87=>some {desc:=Tryz.t87.desc,size:=1,bytes:=8,zero:=(.raw .nilFunc),code:=none}
 | 88=>some {desc:=Tryz.t88.desc,size:=1,bytes:=8,zero:=(.raw .nilFunc),code:=none}
 | 89=>some {desc:=Tryz.t89.desc,size:=1,bytes:=8,zero:=(.raw .nilFunc),code:=none}
 | 90=>some {desc:=Tryz.t90.desc,size:=1,bytes:=8,zero:=(.raw .nilFunc),code:=none}
 | 91=>some {desc:=(.slice 62),size:=1,bytes:=24,zero:=(.raw (.slice none 0 0)),code:=(some (.slice xu))}
 | 92=>some {desc:=Tryz.t92.desc,size:=1,bytes:=8,zero:=(.raw .nilFunc),code:=none}
 | 93=>some {desc:=Tryz.t93.desc,size:=1,bytes:=8,zero:=(.raw .nilFunc),code:=none}
 | 94=>some {desc:=Tryz.t94.desc,size:=1,bytes:=8,zero:=(.raw .nilFunc),code:=none}
 | 95=>some {desc:=Tryz.t95.desc,size:=1,bytes:=8,zero:=(.raw .nilFunc),code:=none}
 | 96=>some {desc:=(.slice 3),size:=1,bytes:=24,zero:=(.raw (.slice none 0 0)),code:=(some (.slice (.int .i64)))}
 | 97=>some {desc:=(.slice 102),size:=1,bytes:=24,zero:=(.raw (.slice none 0 0)),code:=none}
 | 98=>some {desc:=Tryz.t98.desc,size:=3,bytes:=56,zero:=(.agg [1,1,1] [(.raw (.slice none 0 0)),(.int .u8 0),(.raw (.slice none 0 0))]),code:=none}
 | 99=>some {desc:=Tryz.t98.desc,size:=3,bytes:=56,zero:=(.agg [1,1,1] [(.raw (.slice none 0 0)),(.int .u8 0),(.raw (.slice none 0 0))]),code:=none}
 | 100=>some {desc:=Tryz.t95.desc,size:=1,bytes:=8,zero:=(.raw .nilFunc),code:=none}
 | 101=>some {desc:=Tryz.t101.desc,size:=6,bytes:=64,zero:=(.agg [1,1,1,1,1,1] [(.raw .nilFunc),(.raw .nilFunc),(.raw (.slice none 0 0)),(.int .i64 0),(.int .i64 0),(.int .i64 0)]),code:=none}
 | 102=>some {desc:=Tryz.t101.desc,size:=6,bytes:=64,zero:=(.agg [1,1,1,1,1,1] [(.raw .nilFunc),(.raw .nilFunc),(.raw (.slice none 0 0)),(.int .i64 0),(.int .i64 0),(.int .i64 0)]),code:=none}
 | 104=>some {desc:=Tryz.t104.desc,size:=1,bytes:=8,zero:=(.raw .nilFunc),code:=none}
 | 105=>some {desc:=Tryz.t105.desc,size:=1,bytes:=8,zero:=(.raw .nilFunc),code:=none}
 | 106=>some {desc:=Tryz.t106.desc,size:=1,bytes:=8,zero:=(.raw .nilFunc),code:=none}
 | 107=>some {desc:=(.slice 40),size:=1,bytes:=24,zero:=(.raw (.slice none 0 0)),code:=(some (.slice aj))}
 | 108=>some {desc:=Tryz.t108.desc,size:=1,bytes:=8,zero:=(.raw .nilFunc),code:=none}
 | 109=>some {desc:=(.array 3 40),size:=9,bytes:=72,zero:=(.arr 3 aj (List.replicate 3 (false,(0,0)))),code:=(some (.arr 3 aj))}
 | 110=>some {desc:=Tryz.t110.desc,size:=1,bytes:=8,zero:=(.raw .nilFunc),code:=none}
 | 111=>some {desc:=Tryz.t111.desc,size:=1,bytes:=8,zero:=(.raw .nilFunc),code:=none}
 | 113=>some {desc:=Tryz.t113.desc,size:=1,bytes:=8,zero:=(.raw .nilFunc),code:=none}
 | 114=>some {desc:=Tryz.t114.desc,size:=1,bytes:=8,zero:=(.raw .nilFunc),code:=none}
 | 115=>some {desc:=Tryz.t115.desc,size:=1,bytes:=8,zero:=(.raw .nilFunc),code:=none}
 | 116=>some {desc:=Tryz.t116.desc,size:=1,bytes:=8,zero:=(.raw .nilFunc),code:=none}
 | 117=>some {desc:=Tryz.t117.desc,size:=1,bytes:=8,zero:=(.raw .nilFunc),code:=none}
 | 118=>some {desc:=Tryz.t117.desc,size:=1,bytes:=8,zero:=(.raw .nilFunc),code:=none}
 | 119=>some {desc:=Tryz.t119.desc,size:=1,bytes:=8,zero:=(.raw .nilFunc),code:=none}
 | 120=>some {desc:=Tryz.t120.desc,size:=1,bytes:=8,zero:=(.raw .nilFunc),code:=none}
 | 121=>some {desc:=(.int .u32),size:=1,bytes:=4,zero:=(.int .u32 0),code:=(some (.int .u32))}
 | 122=>some {desc:=Tryz.t122.desc,size:=1,bytes:=8,zero:=(.raw .nilFunc),code:=none}
 | 123=>some {desc:=Tryz.t123.desc,size:=1,bytes:=8,zero:=(.raw .nilFunc),code:=none}
 | 124=>some {desc:=Tryz.t124.desc,size:=1,bytes:=8,zero:=(.raw .nilFunc),code:=none}
 | 125=>some {desc:=Tryz.t125.desc,size:=1,bytes:=8,zero:=(.raw .nilFunc),code:=none}
 | 126=>some {desc:=(.array 3 5),size:=3,bytes:=3,zero:=(.arr 3 (.int .u8) (List.replicate 3 (0:Int))),code:=(some (.arr 3 (.int .u8)))}
 | 127=>some {desc:=(.array 3 5),size:=3,bytes:=3,zero:=(.arr 3 (.int .u8) (List.replicate 3 (0:Int))),code:=(some (.arr 3 (.int .u8)))}
 | 128=>some {desc:=Tryz.t128.desc,size:=1,bytes:=8,zero:=(.raw .nilFunc),code:=none}
 | 129=>some {desc:=Tryz.t129.desc,size:=1,bytes:=8,zero:=(.raw .nilFunc),code:=none}
 | 130=>some {desc:=Tryz.t130.desc,size:=1,bytes:=8,zero:=(.raw .nilFunc),code:=none}
 | 132=>some {desc:=Tryz.t132.desc,size:=1,bytes:=8,zero:=(.raw .nilFunc),code:=none}
 | 133=>some {desc:=Tryz.t133.desc,size:=1,bytes:=8,zero:=(.raw .nilFunc),code:=none}
 | 134=>some {desc:=Tryz.t134.desc,size:=1,bytes:=8,zero:=(.raw .nilFunc),code:=none}
 | 135=>some {desc:=Tryz.t135.desc,size:=1,bytes:=8,zero:=(.raw .nilFunc),code:=none}
 | 136=>some {desc:=(.array 8 5),size:=8,bytes:=8,zero:=(.arr 8 (.int .u8) (List.replicate 8 (0:Int))),code:=(some (.arr 8 (.int .u8)))}
 | 137=>some {desc:=(.array 5 3),size:=5,bytes:=40,zero:=(.arr 5 (.int .i64) (List.replicate 5 (0:Int))),code:=(some (.arr 5 (.int .i64)))}
 | 138=>some {desc:=(.array 5 5),size:=5,bytes:=5,zero:=(.arr 5 (.int .u8) (List.replicate 5 (0:Int))),code:=(some (.arr 5 (.int .u8)))}
 | 139=>some {desc:=(.int .i8),size:=1,bytes:=1,zero:=(.int .i8 0),code:=(some (.int .i8))}
 | 140=>some {desc:=Tryz.t140.desc,size:=1,bytes:=8,zero:=(.raw .nilFunc),code:=none}
 | 141=>some {desc:=Tryz.t141.desc,size:=1,bytes:=8,zero:=(.raw .nilFunc),code:=none}
 | 142=>some {desc:=Tryz.t142.desc,size:=1,bytes:=8,zero:=(.raw .nilFunc),code:=none}
 | 143=>some {desc:=(.slice 99),size:=1,bytes:=24,zero:=(.raw (.slice none 0 0)),code:=none}
 | 144=>some {desc:=Tryz.t144.desc,size:=1,bytes:=8,zero:=(.raw .nilFunc),code:=none}
 | 145=>some {desc:=Tryz.t145.desc,size:=1,bytes:=8,zero:=(.raw .nilFunc),code:=none}
 | 146=>some {desc:=(.array 32 5),size:=32,bytes:=32,zero:=(.arr 32 (.int .u8) (List.replicate 32 (0:Int))),code:=(some (.arr 32 (.int .u8)))}
 | 147=>some {desc:=(.array 64 5),size:=64,bytes:=64,zero:=(.arr 64 (.int .u8) (List.replicate 64 (0:Int))),code:=(some (.arr 64 (.int .u8)))}
 | 148=>some {desc:=(.array 9 23),size:=9,bytes:=72,zero:=(.arr 9 (.int .u64) (List.replicate 9 (0:Int))),code:=(some (.arr 9 (.int .u64)))}
 | 149=>some {desc:=Tryz.t149.desc,size:=1,bytes:=8,zero:=(.raw .nilFunc),code:=none}
 | 150=>some {desc:=Tryz.t150.desc,size:=1,bytes:=8,zero:=(.raw .nilFunc),code:=none}
 | 151=>some {desc:=Tryz.t151.desc,size:=1,bytes:=8,zero:=(.raw .nilFunc),code:=none}
 | 152=>some {desc:=(.map 5 3),size:=1,bytes:=8,zero:=(.raw (.map none)),code:=none}
 | 153=>some {desc:=Tryz.t153.desc,size:=1,bytes:=8,zero:=(.raw .nilFunc),code:=none}
 | 154=>some {desc:=Tryz.t154.desc,size:=1,bytes:=8,zero:=(.raw .nilFunc),code:=none}
 | 155=>some {desc:=Tryz.t155.desc,size:=1,bytes:=8,zero:=(.raw .nilFunc),code:=none}
 | 156=>some {desc:=Tryz.t156.desc,size:=1,bytes:=8,zero:=(.raw .nilFunc),code:=none}
 | 157=>some {desc:=Tryz.t157.desc,size:=1,bytes:=8,zero:=(.raw .nilFunc),code:=none}
 | 158=>some {desc:=Tryz.t158.desc,size:=1,bytes:=8,zero:=(.raw .nilFunc),code:=none}
 | 159=>some {desc:=(.map 5 156),size:=1,bytes:=8,zero:=(.raw (.map none)),code:=none}
 | 161=>some {desc:=Tryz.t161.desc,size:=1,bytes:=8,zero:=(.raw .nilFunc),code:=none}
 | 162=>some {desc:=Tryz.t162.desc,size:=1,bytes:=8,zero:=(.raw .nilFunc),code:=none}
 | 163=>some {desc:=Tryz.t163.desc,size:=1,bytes:=8,zero:=(.raw .nilFunc),code:=none}
 | 164=>some {desc:=Tryz.t164.desc,size:=1,bytes:=8,zero:=(.raw .nilFunc),code:=none}
 | 165=>some {desc:=Tryz.t165.desc,size:=4,bytes:=40,zero:=(.agg [1,1,1,1] [(.raw (.pointer none)),(.raw (.pointer none)),(.raw (.pointer none)),(.str ByteArray.empty)]),code:=none}
 | 166=>some {desc:=Tryz.t165.desc,size:=4,bytes:=40,zero:=(.agg [1,1,1,1] [(.raw (.pointer none)),(.raw (.pointer none)),(.raw (.pointer none)),(.str ByteArray.empty)]),code:=none}
 | 167=>some {desc:=(.array 0 16),size:=0,bytes:=0,zero:=(.agg [] []),code:=none}
 | 170=>some {desc:=Tryz.t170.desc,size:=1,bytes:=8,zero:=(.raw .nilFunc),code:=none}
 | 171=>some {desc:=(.int .u8),size:=1,bytes:=1,zero:=(.int .u8 0),code:=(some (.int .u8))}
 | 172=>some {desc:=(.int .u8),size:=1,bytes:=1,zero:=(.int .u8 0),code:=(some (.int .u8))}
 | 173=>some {desc:=Tryz.t173.desc,size:=1,bytes:=8,zero:=(.raw .nilFunc),code:=none}
 | 174=>some {desc:=(.pointer 5),size:=1,bytes:=8,zero:=(.raw (.pointer none)),code:=none}
 | 175=>some {desc:=(.int .i32),size:=1,bytes:=4,zero:=(.int .i32 0),code:=(some (.int .i32))}
 | 176=>some {desc:=(.int .i32),size:=1,bytes:=4,zero:=(.int .i32 0),code:=(some (.int .i32))}
 | 177=>some {desc:=Tryz.t177.desc,size:=11,bytes:=48,zero:=(.agg [1,1,1,1,1,1,1,1,1,1,1] [(.int .u64 0),(.int .u64 0),(.int .u32 0),(.int .u8 0),(.int .u8 0),(.int .u8 0),(.int .u8 0),(.raw .nilFunc),(.raw (.pointer none)),(.int .i32 0),(.int .i32 0)]),code:=none}
 | 178=>some {desc:=Tryz.t177.desc,size:=11,bytes:=48,zero:=(.agg [1,1,1,1,1,1,1,1,1,1,1] [(.int .u64 0),(.int .u64 0),(.int .u32 0),(.int .u8 0),(.int .u8 0),(.int .u8 0),(.int .u8 0),(.raw .nilFunc),(.raw (.pointer none)),(.int .i32 0),(.int .i32 0)]),code:=none}
 | _=>none
theorem Ka:∀ t d,ty t=some d→d.ok Tryz.prog t:=by
 intro t d h
 unfold ty at h
 split at h
 ·cases h;exact ba.ao (i:=Tryz.t1) Tryz.underlying1 Tryz.type1 rfl (by kernel_rfl)
 ·cases h;exact ba.ao (i:=Tryz.t2) Tryz.underlying2 Tryz.type2 rfl (by kernel_rfl)
 ·cases h;exact ba.ao (i:=Tryz.t3) Tryz.underlying3 Tryz.type3 rfl (by kernel_rfl)
 ·cases h;exact ba.ao (i:=Tryz.t4) Tryz.underlying4 Tryz.type4 rfl (by kernel_rfl)
 ·cases h;exact ba.ao (i:=Tryz.t5) Tryz.underlying5 Tryz.type5 rfl (by kernel_rfl)
 ·cases h;exact ba.ao (i:=Tryz.t6) Tryz.underlying6 Tryz.type6 rfl (by kernel_rfl)
 ·cases h;exact ba.ao (i:=Tryz.t7) Tryz.underlying7 Tryz.type7 rfl (by kernel_rfl)
 ·cases h;exact ba.ao (i:=Tryz.t8) Tryz.underlying8 Tryz.type8 rfl (by kernel_rfl)
 ·cases h;exact ba.ao (i:=Tryz.t9) Tryz.underlying9 Tryz.type9 rfl (by kernel_rfl)
 ·cases h;exact ba.ao (i:=Tryz.t10) Tryz.underlying10 Tryz.type10 rfl (by kernel_rfl)
 ·cases h;exact ba.ao (i:=Tryz.t11) Tryz.underlying11 Tryz.type11 rfl (by kernel_rfl)
 ·cases h;exact ba.ao (i:=Tryz.t12) Tryz.underlying12 Tryz.type12 rfl (by kernel_rfl)
 ·cases h;exact ba.ao (i:=Tryz.t13) Tryz.underlying13 Tryz.type13 rfl (by kernel_rfl)
 ·cases h;exact ba.ao (i:=Tryz.t14) Tryz.underlying14 Tryz.type14 rfl (by kernel_rfl)
 ·cases h;exact ba.ao (i:=Tryz.t15) Tryz.underlying15 Tryz.type15 rfl (by kernel_rfl)
 ·cases h;exact ba.ao (i:=Tryz.t16) Tryz.underlying16 Tryz.type16 rfl (by kernel_rfl)
 ·cases h;exact ba.ao (i:=Tryz.t17) Tryz.underlying17 Tryz.type17 rfl (by kernel_rfl)
 ·cases h;exact ba.ao (i:=Tryz.t18) Tryz.underlying18 Tryz.type18 rfl (by kernel_rfl)
 ·cases h;exact ba.ao (i:=Tryz.t19) Tryz.underlying19 Tryz.type19 rfl (by kernel_rfl)
 ·cases h;exact ba.ao (i:=Tryz.t20) Tryz.underlying20 Tryz.type20 rfl (by kernel_rfl)
 ·cases h;exact ba.ao (i:=Tryz.t21) Tryz.underlying21 Tryz.type21 rfl (by kernel_rfl)
 ·cases h;exact ba.ao (i:=Tryz.t22) Tryz.underlying22 Tryz.type22 rfl (by kernel_rfl)
 ·cases h;exact ba.ao (i:=Tryz.t23) Tryz.underlying23 Tryz.type23 rfl (by kernel_rfl)
 ·cases h;exact ba.ao (i:=Tryz.t24) Tryz.underlying24 Tryz.type24 rfl (by kernel_rfl)
 ·cases h;exact ba.ao (i:=Tryz.t25) Tryz.underlying25 Tryz.type25 rfl (by kernel_rfl)
 ·cases h;exact ba.ao (i:=Tryz.t26) Tryz.underlying26 Tryz.type26 rfl (by kernel_rfl)
 ·cases h;exact ba.ao (i:=Tryz.t27) Tryz.underlying27 Tryz.type27 rfl (by kernel_rfl)
 ·cases h;exact ba.ao (i:=Tryz.t28) Tryz.underlying28 Tryz.type28 rfl (by kernel_rfl)
 ·cases h;exact ba.ao (i:=Tryz.t29) Tryz.underlying29 Tryz.type29 rfl (by kernel_rfl)
 ·cases h;exact ba.ao (i:=Tryz.t31) Tryz.underlying31 Tryz.type31 rfl (by kernel_rfl)
 ·cases h;exact ba.ao (i:=Tryz.t33) Tryz.underlying33 Tryz.type33 rfl (by kernel_rfl)
 ·cases h;exact ba.ao (i:=Tryz.t34) Tryz.underlying34 Tryz.type34 rfl (by kernel_rfl)
 ·cases h;exact ba.ao (i:=Tryz.t36) Tryz.underlying36 Tryz.type36 rfl (by kernel_rfl)
 ·cases h;exact ba.ao (i:=Tryz.t37) Tryz.underlying37 Tryz.type37 rfl (by kernel_rfl)
 ·cases h;exact ba.ao (i:=Tryz.t38) Tryz.underlying38 Tryz.type38 rfl (by kernel_rfl)
 ·cases h;exact ba.ao (i:=Tryz.t39) Tryz.underlying39 Tryz.type39 rfl (by kernel_rfl)
 ·cases h;exact ba.ao (i:=Tryz.t40) Tryz.underlying40 Tryz.type40 rfl (by kernel_rfl)
 ·cases h;exact ba.ao (i:=Tryz.t41) Tryz.underlying41 Tryz.type41 rfl (by kernel_rfl)
 ·cases h;exact ba.ao (i:=Tryz.t42) Tryz.underlying42 Tryz.type42 rfl (by kernel_rfl)
 ·cases h;exact ba.ao (i:=Tryz.t43) Tryz.underlying43 Tryz.type43 rfl (by kernel_rfl)
 ·cases h;exact ba.ao (i:=Tryz.t44) Tryz.underlying44 Tryz.type44 rfl (by kernel_rfl)
 ·cases h;exact ba.ao (i:=Tryz.t45) Tryz.underlying45 Tryz.type45 rfl (by kernel_rfl)
 ·cases h;exact ba.ao (i:=Tryz.t46) Tryz.underlying46 Tryz.type46 rfl (by kernel_rfl)
 ·cases h;exact ba.ao (i:=Tryz.t47) Tryz.underlying47 Tryz.type47 rfl (by kernel_rfl)
 ·cases h;exact ba.ao (i:=Tryz.t49) Tryz.underlying49 Tryz.type49 rfl (by kernel_rfl)
 ·cases h;exact ba.ao (i:=Tryz.t50) Tryz.underlying50 Tryz.type50 rfl (by kernel_rfl)
 ·cases h;exact ba.ao (i:=Tryz.t51) Tryz.underlying51 Tryz.type51 rfl (by kernel_rfl)
 ·cases h;exact ba.ao (i:=Tryz.t52) Tryz.underlying52 Tryz.type52 rfl (by kernel_rfl)
 ·cases h;exact ba.ao (i:=Tryz.t54) Tryz.underlying54 Tryz.type54 rfl (by kernel_rfl)
 ·cases h;exact ba.ao (i:=Tryz.t55) Tryz.underlying55 Tryz.type55 rfl (by kernel_rfl)
 ·cases h;exact ba.ao (i:=Tryz.t57) Tryz.underlying57 Tryz.type57 rfl (by kernel_rfl)
 ·cases h;exact ba.ao (i:=Tryz.t58) Tryz.underlying58 Tryz.type58 rfl (by kernel_rfl)
 ·cases h;exact ba.ao (i:=Tryz.t59) Tryz.underlying59 Tryz.type59 rfl (by kernel_rfl)
 ·cases h;exact ba.ao (i:=Tryz.t60) Tryz.underlying60 Tryz.type60 rfl (by kernel_rfl)
 ·cases h;exact ba.ao (i:=Tryz.t61) Tryz.underlying61 Tryz.type61 rfl (by kernel_rfl)
 ·cases h;exact ba.ao (i:=Tryz.t62) Tryz.underlying62 Tryz.type62 rfl (by kernel_rfl)
 ·cases h;exact ba.ao (i:=Tryz.t64) Tryz.underlying64 Tryz.type64 rfl (by kernel_rfl)
 ·cases h;exact ba.ao (i:=Tryz.t65) Tryz.underlying65 Tryz.type65 rfl (by kernel_rfl)
 ·cases h;exact ba.ao (i:=Tryz.t67) Tryz.underlying67 Tryz.type67 rfl (by kernel_rfl)
 ·cases h;exact ba.ao (i:=Tryz.t68) Tryz.underlying68 Tryz.type68 rfl (by kernel_rfl)
 ·cases h;exact ba.ao (i:=Tryz.t69) Tryz.underlying69 Tryz.type69 rfl (by kernel_rfl)
 ·cases h;exact ba.ao (i:=Tryz.t70) Tryz.underlying70 Tryz.type70 rfl (by kernel_rfl)
 ·cases h;exact ba.ao (i:=Tryz.t71) Tryz.underlying71 Tryz.type71 rfl (by kernel_rfl)
 ·cases h;exact ba.ao (i:=Tryz.t72) Tryz.underlying72 Tryz.type72 rfl (by kernel_rfl)
 ·cases h;exact ba.ao (i:=Tryz.t73) Tryz.underlying73 Tryz.type73 rfl (by kernel_rfl)
 ·cases h;exact ba.ao (i:=Tryz.t74) Tryz.underlying74 Tryz.type74 rfl (by kernel_rfl)
 ·cases h;exact ba.ao (i:=Tryz.t76) Tryz.underlying76 Tryz.type76 rfl (by kernel_rfl)
 ·cases h;exact ba.ao (i:=Tryz.t77) Tryz.underlying77 Tryz.type77 rfl (by kernel_rfl)
 ·cases h;exact ba.ao (i:=Tryz.t78) Tryz.underlying78 Tryz.type78 rfl (by kernel_rfl)
 ·cases h;exact ba.ao (i:=Tryz.t79) Tryz.underlying79 Tryz.type79 rfl (by kernel_rfl)
 ·cases h;exact ba.ao (i:=Tryz.t80) Tryz.underlying80 Tryz.type80 rfl (by kernel_rfl)
 ·cases h;exact ba.ao (i:=Tryz.t81) Tryz.underlying81 Tryz.type81 rfl (by kernel_rfl)
 ·cases h;exact ba.ao (i:=Tryz.t82) Tryz.underlying82 Tryz.type82 rfl (by kernel_rfl)
 ·cases h;exact ba.ao (i:=Tryz.t83) Tryz.underlying83 Tryz.type83 rfl (by kernel_rfl)
 ·cases h;exact ba.ao (i:=Tryz.t84) Tryz.underlying84 Tryz.type84 rfl (by kernel_rfl)
 ·cases h;exact ba.ao (i:=Tryz.t85) Tryz.underlying85 Tryz.type85 rfl (by kernel_rfl)
 ·cases h;exact ba.ao (i:=Tryz.t87) Tryz.underlying87 Tryz.type87 rfl (by kernel_rfl)
 ·cases h;exact ba.ao (i:=Tryz.t88) Tryz.underlying88 Tryz.type88 rfl (by kernel_rfl)
 ·cases h;exact ba.ao (i:=Tryz.t89) Tryz.underlying89 Tryz.type89 rfl (by kernel_rfl)
 ·cases h;exact ba.ao (i:=Tryz.t90) Tryz.underlying90 Tryz.type90 rfl (by kernel_rfl)
 ·cases h;exact ba.ao (i:=Tryz.t91) Tryz.underlying91 Tryz.type91 rfl (by kernel_rfl)
 ·cases h;exact ba.ao (i:=Tryz.t92) Tryz.underlying92 Tryz.type92 rfl (by kernel_rfl)
 ·cases h;exact ba.ao (i:=Tryz.t93) Tryz.underlying93 Tryz.type93 rfl (by kernel_rfl)
 ·cases h;exact ba.ao (i:=Tryz.t94) Tryz.underlying94 Tryz.type94 rfl (by kernel_rfl)
 ·cases h;exact ba.ao (i:=Tryz.t95) Tryz.underlying95 Tryz.type95 rfl (by kernel_rfl)
 ·cases h;exact ba.ao (i:=Tryz.t96) Tryz.underlying96 Tryz.type96 rfl (by kernel_rfl)
 ·cases h;exact ba.ao (i:=Tryz.t97) Tryz.underlying97 Tryz.type97 rfl (by kernel_rfl)
 ·cases h;exact ba.ao (i:=Tryz.t98) Tryz.underlying98 Tryz.type98 rfl (by kernel_rfl)
 ·cases h;exact ba.ao (i:=Tryz.t99) Tryz.underlying99 Tryz.type99 rfl (by kernel_rfl)
 ·cases h;exact ba.ao (i:=Tryz.t100) Tryz.underlying100 Tryz.type100 rfl (by kernel_rfl)
 ·cases h;exact ba.ao (i:=Tryz.t101) Tryz.underlying101 Tryz.type101 rfl (by kernel_rfl)
 ·cases h;exact ba.ao (i:=Tryz.t102) Tryz.underlying102 Tryz.type102 rfl (by kernel_rfl)
 ·cases h;exact ba.ao (i:=Tryz.t104) Tryz.underlying104 Tryz.type104 rfl (by kernel_rfl)
 ·cases h;exact ba.ao (i:=Tryz.t105) Tryz.underlying105 Tryz.type105 rfl (by kernel_rfl)
 ·cases h;exact ba.ao (i:=Tryz.t106) Tryz.underlying106 Tryz.type106 rfl (by kernel_rfl)
 ·cases h;exact ba.ao (i:=Tryz.t107) Tryz.underlying107 Tryz.type107 rfl (by kernel_rfl)
 ·cases h;exact ba.ao (i:=Tryz.t108) Tryz.underlying108 Tryz.type108 rfl (by kernel_rfl)
 ·cases h;exact ba.ao (i:=Tryz.t109) Tryz.underlying109 Tryz.type109 rfl (by kernel_rfl)
 ·cases h;exact ba.ao (i:=Tryz.t110) Tryz.underlying110 Tryz.type110 rfl (by kernel_rfl)
 ·cases h;exact ba.ao (i:=Tryz.t111) Tryz.underlying111 Tryz.type111 rfl (by kernel_rfl)
 ·cases h;exact ba.ao (i:=Tryz.t113) Tryz.underlying113 Tryz.type113 rfl (by kernel_rfl)
 ·cases h;exact ba.ao (i:=Tryz.t114) Tryz.underlying114 Tryz.type114 rfl (by kernel_rfl)
 ·cases h;exact ba.ao (i:=Tryz.t115) Tryz.underlying115 Tryz.type115 rfl (by kernel_rfl)
 ·cases h;exact ba.ao (i:=Tryz.t116) Tryz.underlying116 Tryz.type116 rfl (by kernel_rfl)
 ·cases h;exact ba.ao (i:=Tryz.t117) Tryz.underlying117 Tryz.type117 rfl (by kernel_rfl)
 ·cases h;exact ba.ao (i:=Tryz.t118) Tryz.underlying118 Tryz.type118 rfl (by kernel_rfl)
 ·cases h;exact ba.ao (i:=Tryz.t119) Tryz.underlying119 Tryz.type119 rfl (by kernel_rfl)
 ·cases h;exact ba.ao (i:=Tryz.t120) Tryz.underlying120 Tryz.type120 rfl (by kernel_rfl)
 ·cases h;exact ba.ao (i:=Tryz.t121) Tryz.underlying121 Tryz.type121 rfl (by kernel_rfl)
 ·cases h;exact ba.ao (i:=Tryz.t122) Tryz.underlying122 Tryz.type122 rfl (by kernel_rfl)
 ·cases h;exact ba.ao (i:=Tryz.t123) Tryz.underlying123 Tryz.type123 rfl (by kernel_rfl)
 ·cases h;exact ba.ao (i:=Tryz.t124) Tryz.underlying124 Tryz.type124 rfl (by kernel_rfl)
 ·cases h;exact ba.ao (i:=Tryz.t125) Tryz.underlying125 Tryz.type125 rfl (by kernel_rfl)
 ·cases h;exact ba.ao (i:=Tryz.t126) Tryz.underlying126 Tryz.type126 rfl (by kernel_rfl)
 ·cases h;exact ba.ao (i:=Tryz.t127) Tryz.underlying127 Tryz.type127 rfl (by kernel_rfl)
 ·cases h;exact ba.ao (i:=Tryz.t128) Tryz.underlying128 Tryz.type128 rfl (by kernel_rfl)
 ·cases h;exact ba.ao (i:=Tryz.t129) Tryz.underlying129 Tryz.type129 rfl (by kernel_rfl)
 ·cases h;exact ba.ao (i:=Tryz.t130) Tryz.underlying130 Tryz.type130 rfl (by kernel_rfl)
 ·cases h;exact ba.ao (i:=Tryz.t132) Tryz.underlying132 Tryz.type132 rfl (by kernel_rfl)
 ·cases h;exact ba.ao (i:=Tryz.t133) Tryz.underlying133 Tryz.type133 rfl (by kernel_rfl)
 ·cases h;exact ba.ao (i:=Tryz.t134) Tryz.underlying134 Tryz.type134 rfl (by kernel_rfl)
 ·cases h;exact ba.ao (i:=Tryz.t135) Tryz.underlying135 Tryz.type135 rfl (by kernel_rfl)
 ·cases h;exact ba.ao (i:=Tryz.t136) Tryz.underlying136 Tryz.type136 rfl (by kernel_rfl)
 ·cases h;exact ba.ao (i:=Tryz.t137) Tryz.underlying137 Tryz.type137 rfl (by kernel_rfl)
 ·cases h;exact ba.ao (i:=Tryz.t138) Tryz.underlying138 Tryz.type138 rfl (by kernel_rfl)
 ·cases h;exact ba.ao (i:=Tryz.t139) Tryz.underlying139 Tryz.type139 rfl (by kernel_rfl)
 ·cases h;exact ba.ao (i:=Tryz.t140) Tryz.underlying140 Tryz.type140 rfl (by kernel_rfl)
 ·cases h;exact ba.ao (i:=Tryz.t141) Tryz.underlying141 Tryz.type141 rfl (by kernel_rfl)
 ·cases h;exact ba.ao (i:=Tryz.t142) Tryz.underlying142 Tryz.type142 rfl (by kernel_rfl)
 ·cases h;exact ba.ao (i:=Tryz.t143) Tryz.underlying143 Tryz.type143 rfl (by kernel_rfl)
 ·cases h;exact ba.ao (i:=Tryz.t144) Tryz.underlying144 Tryz.type144 rfl (by kernel_rfl)
 ·cases h;exact ba.ao (i:=Tryz.t145) Tryz.underlying145 Tryz.type145 rfl (by kernel_rfl)
 ·cases h;exact ba.ao (i:=Tryz.t146) Tryz.underlying146 Tryz.type146 rfl (by kernel_rfl)
 ·cases h;exact ba.ao (i:=Tryz.t147) Tryz.underlying147 Tryz.type147 rfl (by kernel_rfl)
 ·cases h;exact ba.ao (i:=Tryz.t148) Tryz.underlying148 Tryz.type148 rfl (by kernel_rfl)
 ·cases h;exact ba.ao (i:=Tryz.t149) Tryz.underlying149 Tryz.type149 rfl (by kernel_rfl)
 ·cases h;exact ba.ao (i:=Tryz.t150) Tryz.underlying150 Tryz.type150 rfl (by kernel_rfl)
 ·cases h;exact ba.ao (i:=Tryz.t151) Tryz.underlying151 Tryz.type151 rfl (by kernel_rfl)
 ·cases h;exact ba.ao (i:=Tryz.t152) Tryz.underlying152 Tryz.type152 rfl (by kernel_rfl)
 ·cases h;exact ba.ao (i:=Tryz.t153) Tryz.underlying153 Tryz.type153 rfl (by kernel_rfl)
 ·cases h;exact ba.ao (i:=Tryz.t154) Tryz.underlying154 Tryz.type154 rfl (by kernel_rfl)
 ·cases h;exact ba.ao (i:=Tryz.t155) Tryz.underlying155 Tryz.type155 rfl (by kernel_rfl)
 ·cases h;exact ba.ao (i:=Tryz.t156) Tryz.underlying156 Tryz.type156 rfl (by kernel_rfl)
 ·cases h;exact ba.ao (i:=Tryz.t157) Tryz.underlying157 Tryz.type157 rfl (by kernel_rfl)
 ·cases h;exact ba.ao (i:=Tryz.t158) Tryz.underlying158 Tryz.type158 rfl (by kernel_rfl)
 ·cases h;exact ba.ao (i:=Tryz.t159) Tryz.underlying159 Tryz.type159 rfl (by kernel_rfl)
 ·cases h;exact ba.ao (i:=Tryz.t161) Tryz.underlying161 Tryz.type161 rfl (by kernel_rfl)
 ·cases h;exact ba.ao (i:=Tryz.t162) Tryz.underlying162 Tryz.type162 rfl (by kernel_rfl)
 ·cases h;exact ba.ao (i:=Tryz.t163) Tryz.underlying163 Tryz.type163 rfl (by kernel_rfl)
 ·cases h;exact ba.ao (i:=Tryz.t164) Tryz.underlying164 Tryz.type164 rfl (by kernel_rfl)
 ·cases h;exact ba.ao (i:=Tryz.t165) Tryz.underlying165 Tryz.type165 rfl (by kernel_rfl)
 ·cases h;exact ba.ao (i:=Tryz.t166) Tryz.underlying166 Tryz.type166 rfl (by kernel_rfl)
 ·cases h;exact ba.ao (i:=Tryz.t167) Tryz.underlying167 Tryz.type167 rfl (by kernel_rfl)
 ·cases h;exact ba.ao (i:=Tryz.t170) Tryz.underlying170 Tryz.type170 rfl (by kernel_rfl)
 ·cases h;exact ba.ao (i:=Tryz.t171) Tryz.underlying171 Tryz.type171 rfl (by kernel_rfl)
 ·cases h;exact ba.ao (i:=Tryz.t172) Tryz.underlying172 Tryz.type172 rfl (by kernel_rfl)
 ·cases h;exact ba.ao (i:=Tryz.t173) Tryz.underlying173 Tryz.type173 rfl (by kernel_rfl)
 ·cases h;exact ba.ao (i:=Tryz.t174) Tryz.underlying174 Tryz.type174 rfl (by kernel_rfl)
 ·cases h;exact ba.ao (i:=Tryz.t175) Tryz.underlying175 Tryz.type175 rfl (by kernel_rfl)
 ·cases h;exact ba.ao (i:=Tryz.t176) Tryz.underlying176 Tryz.type176 rfl (by kernel_rfl)
 ·cases h;exact ba.ao (i:=Tryz.t177) Tryz.underlying177 Tryz.type177 rfl (by kernel_rfl)
 ·cases h;exact ba.ao (i:=Tryz.t178) Tryz.underlying178 Tryz.type178 rfl (by kernel_rfl)
 ·cases h
noncomputable def fns:FuncId→Option Func
 | 3=>some Tryz.f3
 | 4=>some Tryz.f4
 | 5=>some Tryz.f5
 | 6=>some Tryz.f6
 | 7=>some Tryz.f7
 | 8=>some Tryz.f8
 | 9=>some Tryz.f9
 | 10=>some Tryz.f10
 | 11=>some Tryz.f11
 | 12=>some Tryz.f12
 | 13=>some Tryz.f13
 | 14=>some Tryz.f14
 | 15=>some Tryz.f15
 | 16=>some Tryz.f16
 | 17=>some Tryz.f17
 | 18=>some Tryz.f18
 | 19=>some Tryz.f19
 | 20=>some Tryz.f20
 | 21=>some Tryz.f21
 | 22=>some Tryz.f22
 | 23=>some Tryz.f23
 | 24=>some Tryz.f24
 | 25=>some Tryz.f25
 | 26=>some Tryz.f26
 | 27=>some Tryz.f27
 | 28=>some Tryz.f28
 | 29=>some Tryz.f29
 | 30=>some Tryz.f30
 | 31=>some Tryz.f31
 | 32=>some Tryz.f32
 | 33=>some Tryz.f33
 | 34=>some Tryz.f34
 | 35=>some Tryz.f35
 | 36=>some Tryz.f36
 | 37=>some Tryz.f37
 | 38=>some Tryz.f38
 | 39=>some Tryz.f39
 | 40=>some Tryz.f40
 | 41=>some Tryz.f41
 | 42=>some Tryz.f42
 | 43=>some Tryz.f43
 | 44=>some Tryz.f44
 | 45=>some Tryz.f45
 | 46=>some Tryz.f46
 | 47=>some Tryz.f47
 | 48=>some Tryz.f48
 | 49=>some Tryz.f49
 | 50=>some Tryz.f50
 | 51=>some Tryz.f51
 | 52=>some Tryz.f52
 | 53=>some Tryz.f53
 | 54=>some Tryz.f54
 | 55=>some Tryz.f55
 | 56=>some Tryz.f56
 | 57=>some Tryz.f57
 | 58=>some Tryz.f58
 | 59=>some Tryz.f59
 | 60=>some Tryz.f60
 | 61=>some Tryz.f61
 | 62=>some Tryz.f62
 | 63=>some Tryz.f63
 | 64=>some Tryz.f64
 | 65=>some Tryz.f65
 | 66=>some Tryz.f66
 | 67=>some Tryz.f67
 | 68=>some Tryz.f68
 | 69=>some Tryz.f69
 | 70=>some Tryz.f70
 | 71=>some Tryz.f71
 | 72=>some Tryz.f72
 | 73=>some Tryz.f73
 | 74=>some Tryz.f74
 | 75=>some Tryz.f75
 | 76=>some Tryz.f76
 | 77=>some Tryz.f77
 | 78=>some Tryz.f78
 | 79=>some Tryz.f79
 | 80=>some Tryz.f80
 | 81=>some Tryz.f81
 | 82=>some Tryz.f82
 | 83=>some Tryz.f83
 | 84=>some Tryz.f84
 | 85=>some Tryz.f85
 | 86=>some Tryz.f86
 | 87=>some Tryz.f87
 | 88=>some Tryz.f88
 | 89=>some Tryz.f89
 | 90=>some Tryz.f90
 | 91=>some Tryz.f91
 | 92=>some Tryz.f92
 | 93=>some Tryz.f93
 | 94=>some Tryz.f94
 | 96=>some Tryz.f96
 | 97=>some Tryz.f97
 | 98=>some Tryz.f98
 | 99=>some Tryz.f99
 | 100=>some Tryz.f100
 | 101=>some Tryz.f101
 | 102=>some Tryz.f102
 | 103=>some Tryz.f103
 | 104=>some Tryz.f104
 | 105=>some Tryz.f105
 | 106=>some Tryz.f106
 | 107=>some Tryz.f107
 | 108=>some Tryz.f108
 | 109=>some Tryz.f109
 | 110=>some Tryz.f110
 | 111=>some Tryz.f111
 | 112=>some Tryz.f112
 | 113=>some Tryz.f113
 | 114=>some Tryz.f114
 | 115=>some Tryz.f115
 | 116=>some Tryz.f116
 | 117=>some Tryz.f117
 | 118=>some Tryz.f118
 | 119=>some Tryz.f119
 | 120=>some Tryz.f120
 | 121=>some Tryz.f121
 | 122=>some Tryz.f122
 | 123=>some Tryz.f123
 | 124=>some Tryz.f124
 | 125=>some Tryz.f125
 | 126=>some Tryz.f126
 | 127=>some Tryz.f127
 | 128=>some Tryz.f128
 | 129=>some Tryz.f129
 | 130=>some Tryz.f130
 | 131=>some Tryz.f131
 | 132=>some Tryz.f132
 | 133=>some Tryz.f133
 | 134=>some Tryz.f134
 | 135=>some Tryz.f135
 | 136=>some Tryz.f136
 | 137=>some Tryz.f137
 | 138=>some Tryz.f138
 | 139=>some Tryz.f139
 | 140=>some Tryz.f140
 | 141=>some Tryz.f141
 | 142=>some Tryz.f142
 | 143=>some Tryz.f143
 | 144=>some Tryz.f144
 | 145=>some Tryz.f145
 | 146=>some Tryz.f146
 | 147=>some Tryz.f147
 | 148=>some Tryz.f148
 | 149=>some Tryz.f149
 | 150=>some Tryz.f150
 | 151=>some Tryz.f151
 | 152=>some Tryz.f152
 | 153=>some Tryz.f153
 | 154=>some Tryz.f154
 | 155=>some Tryz.f155
 | 156=>some Tryz.f156
 | 157=>some Tryz.f157
 | 158=>some Tryz.f158
 | 159=>some Tryz.f159
 | 160=>some Tryz.f160
 | 161=>some Tryz.f161
 | 162=>some Tryz.f162
 | 163=>some Tryz.f163
 | 164=>some Tryz.f164
 | 165=>some Tryz.f165
 | 166=>some Tryz.f166
 | 167=>some Tryz.f167
 | 168=>some Tryz.f168
 | 169=>some Tryz.f169
 | 170=>some Tryz.f170
 | 171=>some Tryz.f171
 | 172=>some Tryz.f172
 | 173=>some Tryz.f173
 | _=>none
theorem FT:∀ f fn,fns f=some fn→Tryz.prog.funcs[f]?=some fn∧(fn.name == "runtime.NumGoroutine")=false:=by
 intro f fn h
 unfold fns at h
 split at h
 ·cases h;exact ⟨Tryz.func3,by kernel_rfl⟩
 ·cases h;exact ⟨Tryz.func4,by kernel_rfl⟩
 ·cases h;exact ⟨Tryz.func5,by kernel_rfl⟩
 ·cases h;exact ⟨Tryz.func6,by kernel_rfl⟩
 ·cases h;exact ⟨Tryz.func7,by kernel_rfl⟩
 ·cases h;exact ⟨Tryz.func8,by kernel_rfl⟩
 ·cases h;exact ⟨Tryz.func9,by kernel_rfl⟩
 ·cases h;exact ⟨Tryz.func10,by kernel_rfl⟩
 ·cases h;exact ⟨Tryz.func11,by kernel_rfl⟩
 ·cases h;exact ⟨Tryz.func12,by kernel_rfl⟩
 ·cases h;exact ⟨Tryz.func13,by kernel_rfl⟩
 ·cases h;exact ⟨Tryz.func14,by kernel_rfl⟩
 ·cases h;exact ⟨Tryz.func15,by kernel_rfl⟩
 ·cases h;exact ⟨Tryz.func16,by kernel_rfl⟩
 ·cases h;exact ⟨Tryz.func17,by kernel_rfl⟩
 ·cases h;exact ⟨Tryz.func18,by kernel_rfl⟩
 ·cases h;exact ⟨Tryz.func19,by kernel_rfl⟩
 ·cases h;exact ⟨Tryz.func20,by kernel_rfl⟩
 ·cases h;exact ⟨Tryz.func21,by kernel_rfl⟩
 ·cases h;exact ⟨Tryz.func22,by kernel_rfl⟩
 ·cases h;exact ⟨Tryz.func23,by kernel_rfl⟩
 ·cases h;exact ⟨Tryz.func24,by kernel_rfl⟩
 ·cases h;exact ⟨Tryz.func25,by kernel_rfl⟩
 ·cases h;exact ⟨Tryz.func26,by kernel_rfl⟩
 ·cases h;exact ⟨Tryz.func27,by kernel_rfl⟩
 ·cases h;exact ⟨Tryz.func28,by kernel_rfl⟩
 ·cases h;exact ⟨Tryz.func29,by kernel_rfl⟩
 ·cases h;exact ⟨Tryz.func30,by kernel_rfl⟩
 ·cases h;exact ⟨Tryz.func31,by kernel_rfl⟩
 ·cases h;exact ⟨Tryz.func32,by kernel_rfl⟩
 ·cases h;exact ⟨Tryz.func33,by kernel_rfl⟩
 ·cases h;exact ⟨Tryz.func34,by kernel_rfl⟩
 ·cases h;exact ⟨Tryz.func35,by kernel_rfl⟩
 ·cases h;exact ⟨Tryz.func36,by kernel_rfl⟩
 ·cases h;exact ⟨Tryz.func37,by kernel_rfl⟩
 ·cases h;exact ⟨Tryz.func38,by kernel_rfl⟩
 ·cases h;exact ⟨Tryz.func39,by kernel_rfl⟩
 ·cases h;exact ⟨Tryz.func40,by kernel_rfl⟩
 ·cases h;exact ⟨Tryz.func41,by kernel_rfl⟩
 ·cases h;exact ⟨Tryz.func42,by kernel_rfl⟩
 ·cases h;exact ⟨Tryz.func43,by kernel_rfl⟩
 ·cases h;exact ⟨Tryz.func44,by kernel_rfl⟩
 ·cases h;exact ⟨Tryz.func45,by kernel_rfl⟩
 ·cases h;exact ⟨Tryz.func46,by kernel_rfl⟩
 ·cases h;exact ⟨Tryz.func47,by kernel_rfl⟩
 ·cases h;exact ⟨Tryz.func48,by kernel_rfl⟩
 ·cases h;exact ⟨Tryz.func49,by kernel_rfl⟩
 ·cases h;exact ⟨Tryz.func50,by kernel_rfl⟩
 ·cases h;exact ⟨Tryz.func51,by kernel_rfl⟩
 ·cases h;exact ⟨Tryz.func52,by kernel_rfl⟩
 ·cases h;exact ⟨Tryz.func53,by kernel_rfl⟩
 ·cases h;exact ⟨Tryz.func54,by kernel_rfl⟩
 ·cases h;exact ⟨Tryz.func55,by kernel_rfl⟩
 ·cases h;exact ⟨Tryz.func56,by kernel_rfl⟩
 ·cases h;exact ⟨Tryz.func57,by kernel_rfl⟩
 ·cases h;exact ⟨Tryz.func58,by kernel_rfl⟩
 ·cases h;exact ⟨Tryz.func59,by kernel_rfl⟩
 ·cases h;exact ⟨Tryz.func60,by kernel_rfl⟩
 ·cases h;exact ⟨Tryz.func61,by kernel_rfl⟩
 ·cases h;exact ⟨Tryz.func62,by kernel_rfl⟩
 ·cases h;exact ⟨Tryz.func63,by kernel_rfl⟩
 ·cases h;exact ⟨Tryz.func64,by kernel_rfl⟩
 ·cases h;exact ⟨Tryz.func65,by kernel_rfl⟩
 ·cases h;exact ⟨Tryz.func66,by kernel_rfl⟩
 ·cases h;exact ⟨Tryz.func67,by kernel_rfl⟩
 ·cases h;exact ⟨Tryz.func68,by kernel_rfl⟩
 ·cases h;exact ⟨Tryz.func69,by kernel_rfl⟩
 ·cases h;exact ⟨Tryz.func70,by kernel_rfl⟩
 ·cases h;exact ⟨Tryz.func71,by kernel_rfl⟩
 ·cases h;exact ⟨Tryz.func72,by kernel_rfl⟩
 ·cases h;exact ⟨Tryz.func73,by kernel_rfl⟩
 ·cases h;exact ⟨Tryz.func74,by kernel_rfl⟩
 ·cases h;exact ⟨Tryz.func75,by kernel_rfl⟩
 ·cases h;exact ⟨Tryz.func76,by kernel_rfl⟩
 ·cases h;exact ⟨Tryz.func77,by kernel_rfl⟩
 ·cases h;exact ⟨Tryz.func78,by kernel_rfl⟩
 ·cases h;exact ⟨Tryz.func79,by kernel_rfl⟩
 ·cases h;exact ⟨Tryz.func80,by kernel_rfl⟩
 ·cases h;exact ⟨Tryz.func81,by kernel_rfl⟩
 ·cases h;exact ⟨Tryz.func82,by kernel_rfl⟩
 ·cases h;exact ⟨Tryz.func83,by kernel_rfl⟩
 ·cases h;exact ⟨Tryz.func84,by kernel_rfl⟩
 ·cases h;exact ⟨Tryz.func85,by kernel_rfl⟩
 ·cases h;exact ⟨Tryz.func86,by kernel_rfl⟩
 ·cases h;exact ⟨Tryz.func87,by kernel_rfl⟩
 ·cases h;exact ⟨Tryz.func88,by kernel_rfl⟩
 ·cases h;exact ⟨Tryz.func89,by kernel_rfl⟩
 ·cases h;exact ⟨Tryz.func90,by kernel_rfl⟩
 ·cases h;exact ⟨Tryz.func91,by kernel_rfl⟩
 ·cases h;exact ⟨Tryz.func92,by kernel_rfl⟩
 ·cases h;exact ⟨Tryz.func93,by kernel_rfl⟩
 ·cases h;exact ⟨Tryz.func94,by kernel_rfl⟩
 ·cases h;exact ⟨Tryz.func96,by kernel_rfl⟩
 ·cases h;exact ⟨Tryz.func97,by kernel_rfl⟩
 ·cases h;exact ⟨Tryz.func98,by kernel_rfl⟩
 ·cases h;exact ⟨Tryz.func99,by kernel_rfl⟩
 ·cases h;exact ⟨Tryz.func100,by kernel_rfl⟩
 ·cases h;exact ⟨Tryz.func101,by kernel_rfl⟩
 ·cases h;exact ⟨Tryz.func102,by kernel_rfl⟩
 ·cases h;exact ⟨Tryz.func103,by kernel_rfl⟩
 ·cases h;exact ⟨Tryz.func104,by kernel_rfl⟩
 ·cases h;exact ⟨Tryz.func105,by kernel_rfl⟩
 ·cases h;exact ⟨Tryz.func106,by kernel_rfl⟩
 ·cases h;exact ⟨Tryz.func107,by kernel_rfl⟩
 ·cases h;exact ⟨Tryz.func108,by kernel_rfl⟩
 ·cases h;exact ⟨Tryz.func109,by kernel_rfl⟩
 ·cases h;exact ⟨Tryz.func110,by kernel_rfl⟩
 ·cases h;exact ⟨Tryz.func111,by kernel_rfl⟩
 ·cases h;exact ⟨Tryz.func112,by kernel_rfl⟩
 ·cases h;exact ⟨Tryz.func113,by kernel_rfl⟩
 ·cases h;exact ⟨Tryz.func114,by kernel_rfl⟩
 ·cases h;exact ⟨Tryz.func115,by kernel_rfl⟩
 ·cases h;exact ⟨Tryz.func116,by kernel_rfl⟩
 ·cases h;exact ⟨Tryz.func117,by kernel_rfl⟩
 ·cases h;exact ⟨Tryz.func118,by kernel_rfl⟩
 ·cases h;exact ⟨Tryz.func119,by kernel_rfl⟩
 ·cases h;exact ⟨Tryz.func120,by kernel_rfl⟩
 ·cases h;exact ⟨Tryz.func121,by kernel_rfl⟩
 ·cases h;exact ⟨Tryz.func122,by kernel_rfl⟩
 ·cases h;exact ⟨Tryz.func123,by kernel_rfl⟩
 ·cases h;exact ⟨Tryz.func124,by kernel_rfl⟩
 ·cases h;exact ⟨Tryz.func125,by kernel_rfl⟩
 ·cases h;exact ⟨Tryz.func126,by kernel_rfl⟩
 ·cases h;exact ⟨Tryz.func127,by kernel_rfl⟩
 ·cases h;exact ⟨Tryz.func128,by kernel_rfl⟩
 ·cases h;exact ⟨Tryz.func129,by kernel_rfl⟩
 ·cases h;exact ⟨Tryz.func130,by kernel_rfl⟩
 ·cases h;exact ⟨Tryz.func131,by kernel_rfl⟩
 ·cases h;exact ⟨Tryz.func132,by kernel_rfl⟩
 ·cases h;exact ⟨Tryz.func133,by kernel_rfl⟩
 ·cases h;exact ⟨Tryz.func134,by kernel_rfl⟩
 ·cases h;exact ⟨Tryz.func135,by kernel_rfl⟩
 ·cases h;exact ⟨Tryz.func136,by kernel_rfl⟩
 ·cases h;exact ⟨Tryz.func137,by kernel_rfl⟩
 ·cases h;exact ⟨Tryz.func138,by kernel_rfl⟩
 ·cases h;exact ⟨Tryz.func139,by kernel_rfl⟩
 ·cases h;exact ⟨Tryz.func140,by kernel_rfl⟩
 ·cases h;exact ⟨Tryz.func141,by kernel_rfl⟩
 ·cases h;exact ⟨Tryz.func142,by kernel_rfl⟩
 ·cases h;exact ⟨Tryz.func143,by kernel_rfl⟩
 ·cases h;exact ⟨Tryz.func144,by kernel_rfl⟩
 ·cases h;exact ⟨Tryz.func145,by kernel_rfl⟩
 ·cases h;exact ⟨Tryz.func146,by kernel_rfl⟩
 ·cases h;exact ⟨Tryz.func147,by kernel_rfl⟩
 ·cases h;exact ⟨Tryz.func148,by kernel_rfl⟩
 ·cases h;exact ⟨Tryz.func149,by kernel_rfl⟩
 ·cases h;exact ⟨Tryz.func150,by kernel_rfl⟩
 ·cases h;exact ⟨Tryz.func151,by kernel_rfl⟩
 ·cases h;exact ⟨Tryz.func152,by kernel_rfl⟩
 ·cases h;exact ⟨Tryz.func153,by kernel_rfl⟩
 ·cases h;exact ⟨Tryz.func154,by kernel_rfl⟩
 ·cases h;exact ⟨Tryz.func155,by kernel_rfl⟩
 ·cases h;exact ⟨Tryz.func156,by kernel_rfl⟩
 ·cases h;exact ⟨Tryz.func157,by kernel_rfl⟩
 ·cases h;exact ⟨Tryz.func158,by kernel_rfl⟩
 ·cases h;exact ⟨Tryz.func159,by kernel_rfl⟩
 ·cases h;exact ⟨Tryz.func160,by kernel_rfl⟩
 ·cases h;exact ⟨Tryz.func161,by kernel_rfl⟩
 ·cases h;exact ⟨Tryz.func162,by kernel_rfl⟩
 ·cases h;exact ⟨Tryz.func163,by kernel_rfl⟩
 ·cases h;exact ⟨Tryz.func164,by kernel_rfl⟩
 ·cases h;exact ⟨Tryz.func165,by kernel_rfl⟩
 ·cases h;exact ⟨Tryz.func166,by kernel_rfl⟩
 ·cases h;exact ⟨Tryz.func167,by kernel_rfl⟩
 ·cases h;exact ⟨Tryz.func168,by kernel_rfl⟩
 ·cases h;exact ⟨Tryz.func169,by kernel_rfl⟩
 ·cases h;exact ⟨Tryz.func170,by kernel_rfl⟩
 ·cases h;exact ⟨Tryz.func171,by kernel_rfl⟩
 ·cases h;exact ⟨Tryz.func172,by kernel_rfl⟩
 ·cases h;exact ⟨Tryz.func173,by kernel_rfl⟩
 ·cases h
theorem mixed:Tryz.prog.follows .mixedOrders=true:=by kernel_rfl
noncomputable def CX:List Int:=[255,255,65535,16777215,4294967295,1099511627775,281474976710655,72057594037927935,18446744073709551615]
noncomputable def cI:Nat→Option AV
 | 0=>some (.arr 3 (.int .u8) [2,4,6])
 | 1=>some (.arr 3 (.int .u8) [3,5,7])
 | 2=>some (.arr 32 (.int .u8) [0,1,28,2,29,14,24,3,30,22,20,15,25,17,4,8,31,27,13,23,21,19,16,7,26,12,18,6,11,5,10,9])
 | 3=>some (.arr 64 (.int .u8) [0,1,56,2,57,49,28,3,61,58,42,50,38,29,17,4,62,47,59,36,45,43,51,22,53,39,33,30,24,18,12,5,63,55,48,27,60,41,37,16,46,35,44,21,52,32,23,11,54,26,40,15,34,20,31,10,25,14,19,9,13,8,7,6])
 | 4=>some (.arr 9 (.int .u64) CX)
 | _=>none
def sched:FuncId→Nat→Option S8
 | 7,7=>some (.one 1 (.one 2 (.one 0 (.one 3 (.one 4 (.one 5 (.one 6 (.one 7 (.one 8 .fin)))))))))
 | 5,14=>some (.one 0 (.one 1 (.one 2 (.one 3 (.one 4 (.one 5 (.one 6 (.one 7 (.one 8 (.one 9 (.one 10 (.one 11 (.two 12 13 (.one 13 (.one 14 (.one 15 (.one 16 (.one 17 .fin))))) (.one 12 (.one 14 (.one 15 (.one 16 (.one 17 .fin))))))))))))))))))
 | 22,6=>some (.one 0 (.one 1 (.one 2 (.one 3 (.one 4 (.one 5 (.one 6 (.one 8 (.one 9 (.one 10 (.one 11 (.one 12 (.one 13 (.one 7 (.one 14 (.one 15 (.one 16 .fin)))))))))))))))))
 | 6,7=>some (.one 0 (.one 1 (.one 2 (.one 3 (.one 4 (.one 5 (.two 6 7 (.one 7 (.one 8 (.one 9 .fin))) (.one 6 (.one 8 (.one 9 .fin))))))))))
 | _,_=>none
def split:FuncId→Nat→Option (Nat×List Step×Nat)
 | _,_=>none
def tail:FuncId→Nat→Bool
 | _,_=>false
def HP:FuncId→Nat→List Nat
 | 5,14=>[12,13]
 | 6,7=>[9,10]
 | 65,1=>[4]
 | 65,2=>[5]
 | 66,0=>[2]
 | 66,1=>[3]
 | 66,2=>[4]
 | 66,3=>[5]
 | 74,0=>[2]
 | 74,1=>[3]
 | 100,1=>[6]
 | 101,0=>[6]
 | 101,1=>[7]
 | 101,2=>[8]
 | 104,1=>[4]
 | 104,8=>[7]
 | 104,20=>[12,13,14]
 | _,_=>[]
def lX:TypeId→Bool
 | 79=>true
 | _=>false
def PT:FuncId→Bool
 | _=>false
def YF:FuncId→Nat→Option Nat
 | 7,11=>some 6
 | _,_=>none
def exact:FuncId→Bool
 | _=>false
def apart:FuncId→Bool
 | _=>false
theorem xf:∀ f,apart f=true→BO Tryz.prog f:=by
 intro f h
 unfold apart at h
 split at h
 ·cases h
noncomputable def sort:FuncId→Option gf
 | _=>none
theorem Aq:∀ f s,sort f=some s→Ge Tryz.prog f s:=by
 intro f s h
 unfold sort at h
 split at h
 ·cases h
noncomputable def Vs (sp:FuncId→Option Spec) (pc:FuncId→Option aN) (pb:Bool) (mk:FuncId→Nat→Option (List Nat)) (rw:Bool):Env:={P:=Tryz.prog,ty:=ty,fns:=fns,cI:=cI,spec:=sp,mask:=mk,exact:=exact,apart:=apart,split:=split,sched:=sched,sort:=sort,YF:=YF,tail:=tail,rows:=rw,PT:=PT,proc:=pc,procs:=pb,lX:=lX,oW:=true,HP:=HP}
noncomputable abbrev env (sp:FuncId→Option Spec) (pc:FuncId→Option aN) (pb:Bool) (mk:FuncId→Nat→Option (List Nat)):Env:=Vs sp pc pb mk true
theorem yX (sp:FuncId→Option Spec) (pc:FuncId→Option aN) (pb:Bool) (mk:FuncId→Nat→Option (List Nat)) (rw:Bool):(Vs sp pc pb mk rw).Valid:=⟨Ka,FT,mixed,xf,Aq⟩
noncomputable abbrev aT:Env:=env (fun _=>none) (fun _=>none) false (fun _ _=>none)
theorem valid (sp:FuncId→Option Spec) (pc:FuncId→Option aN) (pb:Bool) (mk:FuncId→Nat→Option (List Nat)):(env sp pc pb mk).Valid:=⟨Ka,FT,mixed,xf,Aq⟩
def Gf:List (FuncId×Spec)→Prop
 | []=>True
 | p :: l=>au aT p.1 p.2∧Gf l
noncomputable def o5:List (FuncId×Spec)→FuncId→Option Spec
 | [],_=>none
 | p :: l,f=>cond (p.1==f) (some p.2) (o5 l f)
theorem Gm:∀ l,Gf l→∀ f sp,o5 l f=some sp→au (aT) f sp
 | [],_,f,sp,h=>by cases h
 | p :: l,a,f,sp,h=>by
  unfold o5 at h
  cases e:p.1==f with
  | true=>rw [e] at h;cases h;rw [← (show p.1=f from by simpa using e)];exact a.1
  | false=>rw [e] at h;exact Gm l a.2 f sp h
def Gg:List (FuncId×aN)→Prop
 | []=>True
 | p :: l=>aZ aT p.1 p.2∧Gg l
noncomputable def PC:List (FuncId×aN)→FuncId→Option aN
 | [],_=>none
 | p :: l,f=>cond (p.1==f) (some p.2) (PC l f)
theorem Gn:∀ l,Gg l→∀ f sp,PC l f=some sp→aZ (aT) f sp
 | [],_,f,sp,h=>by cases h
 | p :: l,a,f,sp,h=>by
  unfold PC at h
  cases e:p.1==f with
  | true=>rw [e] at h;cases h;rw [← (show p.1=f from by simpa using e)];exact a.1
  | false=>rw [e] at h;exact Gn l a.2 f sp h
noncomputable abbrev F0 (l:List (FuncId×Spec)) (m:List (FuncId×aN)) (pb:Bool) (rw:Bool):Env:=Vs (o5 l) (PC m) pb (fun _ _=>none) rw
theorem Aj {l:List (FuncId×Spec)} {m:List (FuncId×aN)} (pb rw:Bool) (hl:Gf l) (hm:Gg m):jj (F0 l m pb rw):=
 ⟨fun f sp h=>au.env rfl (fun _ _ h=>h) (Gm l hl f sp h),fun f ps h=>aZ.env rfl (fun _ _ h=>h) (Gn m hm f ps h)⟩
theorem iO {sp:Spec} {f:FuncId} (fn:Func) (l:List (FuncId×Spec)) (hl:Gf l) (tree:sp.dg.den→Tr sp.bG.den) (m:List (FuncId×aN):=[]) (hm:Gg m:=by trivial) (pb:Bool:=false) (rw:Bool:=true)
  (hf:fns f=some fn:=by kernel_rfl) (hc:fn.body=some (ah fn):=by kernel_rfl) (hp:sp.pre=fun x=>(tree x).ok:=by rfl) (hq:sp.f=fun x=>(tree x).val:=by rfl)
  (hw:∀ (W:qk) (Q:sp.bG.den→Prop) (x:sp.dg.den),run (F0 l m pb rw) (fun _ _ _=>none) (nd sp Q) W 100000 (mR f fn (ah fn) (fJ sp.dg x)) [] []=(tree x).wp Q:=by intro W Q x;kernel_rfl):au aT f sp:=
 au.env rfl (fun _ _ h=>h) (Ak (yX _ _ _ _ _) (Aj pb rw hl hm) hf hc tree hw fun x h=>by rw [hp] at h;rw [hq];exact Tr.ig h)
theorem o7 {sp:Spec} {f:FuncId} {J:Type} (fn:Func) (l:List (FuncId×Spec)) (hl:Gf l) (tree:sp.dg.den→Tr (J⊕sp.bG.den)) (step:sp.dg.den→J→Tr (J⊕sp.bG.den)) (head:sp.dg.den→J→Head) (stop:FuncId→Nat→Nat→Option Cut) (m:List (FuncId×aN):=[]) (hm:Gg m:=by trivial) (pb:Bool:=false) (rw:Bool:=true)
  (hf:fns f=some fn:=by kernel_rfl) (hc:fn.body=some (ah fn):=by kernel_rfl) (hp:sp.pre=fun x=>∃ r,Ends (step x) r (tree x):=by rfl) (hq:sp.f=fun x=>dq (TC.gN sp.bG) (step x) (tree x):=by rfl)
  (hw:∀ (W:qk) (Q:sp.bG.den→Prop) (x:sp.dg.den),run (F0 l m pb rw) stop (nd sp Q) W 100000 (mR f fn (ah fn) (fJ sp.dg x)) [] []=(tree x).wp (o9 W Q (head x)):=by intro W Q x;kernel_rfl)
  (hs:∀ (W:qk) (Q:sp.bG.den→Prop) (x:sp.dg.den) (j:J),run (F0 l m pb rw) stop (nd sp Q) W 100000 (head x j).fr.enter (head x j).aF (head x j).H=(step x j).wp (o9 W Q (head x)):=by intro W Q x j;cases j<;>kernel_rfl):au aT f sp:=
 au.env rfl (fun _ _ h=>h) (pz (yX _ _ _ _ _) (Aj pb rw hl hm) hf hc tree step head hw hs fun x h=>by rw [hp] at h;rw [hq];exact lK h)
theorem dI {ps:aN} {f:FuncId} (fn:Func) (l:List (FuncId×Spec)) (hl:Gf l) (tree:ps.st.den×(List ps.ce.den×ps.arg.den)→Tr (List ps.ce.den×ps.bG.den)) (m:List (FuncId×aN):=[]) (hm:Gg m:=by trivial) (pb:Bool:=false) (rw:Bool:=true)
  (hf:fns f=some fn:=by kernel_rfl) (hc:fn.body=some (ah fn):=by kernel_rfl) (hwf:ps.wf=true:=by rfl) (hp:ps.pre=fun x=>(tree x).ok:=by rfl) (hq:(fun x=>(ps.f x,ps.g x))=fun x=>(tree x).val:=by rfl)
  (hw:∀ (W:qk) (Q:List ps.ce.den×ps.bG.den→Prop) (x:ps.st.den×(List ps.ce.den×ps.arg.den)),run (F0 l m pb rw) (fun _ _ _=>none) (sD ps x.1 Q) W 100000 (r4 f fn (ah fn) (ps.Et x.2.2)) [] (H0 ps x.1 x.2.1)=(tree x).wp Q:=by intro W Q x;kernel_rfl):aZ aT f ps:=
 aZ.env rfl (fun _ _ h=>h) (Ay (yX _ _ _ _ _) (Aj pb rw hl hm) hwf hf hc tree hw fun x h=>by rw [hp] at h;rw [show (ps.f x,ps.g x)=(tree x).val from congrFun hq x];exact Tr.ig h)
theorem Zm {ps:aN} {f:FuncId} {J:Type} (fn:Func) (l:List (FuncId×Spec)) (hl:Gf l) (tree:ps.st.den×(List ps.ce.den×ps.arg.den)→Tr (J⊕(List ps.ce.den×ps.bG.den))) (step:ps.st.den×(List ps.ce.den×ps.arg.den)→J→Tr (J⊕(List ps.ce.den×ps.bG.den))) (head:ps.st.den×(List ps.ce.den×ps.arg.den)→J→Head) (stop:FuncId→Nat→Nat→Option Cut) (m:List (FuncId×aN):=[]) (hm:Gg m:=by trivial) (pb:Bool:=false) (rw:Bool:=true)
  (hf:fns f=some fn:=by kernel_rfl) (hc:fn.body=some (ah fn):=by kernel_rfl) (hwf:ps.wf=true:=by rfl) (hp:ps.pre=fun x=>∃ r,Ends (step x) r (tree x):=by rfl) (hq:(fun x=>(ps.f x,ps.g x))=fun x=>dq ([],TC.gN ps.bG) (step x) (tree x):=by rfl)
  (hw:∀ (W:qk) (Q:List ps.ce.den×ps.bG.den→Prop) (x:ps.st.den×(List ps.ce.den×ps.arg.den)),run (F0 l m pb rw) stop (sD ps x.1 Q) W 100000 (r4 f fn (ah fn) (ps.Et x.2.2)) [] (H0 ps x.1 x.2.1)=(tree x).wp (o9 W Q (head x)):=by intro W Q x;kernel_rfl)
  (hs:∀ (W:qk) (Q:List ps.ce.den×ps.bG.den→Prop) (x:ps.st.den×(List ps.ce.den×ps.arg.den)) (j:J),run (F0 l m pb rw) stop (sD ps x.1 Q) W 100000 (head x j).fr.enter (head x j).aF (head x j).H=(step x j).wp (o9 W Q (head x)):=by intro W Q x j;cases j<;>kernel_rfl):aZ aT f ps:=
 aZ.env rfl (fun _ _ h=>h) (xH (yX _ _ _ _ _) (Aj pb rw hl hm) hwf hf hc tree step head hw hs fun x h=>by rw [hp] at h;rw [show (ps.f x,ps.g x)=dq ([],TC.gN ps.bG) (step x) (tree x) from congrFun hq x];exact lK h)
noncomputable def Ed (sp:FuncId→Option Spec) (pc:FuncId→Option aN) (pb:Bool) (mk:FuncId→Nat→Option (List Nat)):Env:={env sp pc pb mk with EE:=true}
theorem Tb (sp:FuncId→Option Spec) (pc:FuncId→Option aN) (pb:Bool) (mk:FuncId→Nat→Option (List Nat)):(Ed sp pc pb mk).Valid:=⟨Ka,FT,mixed,xf,Aq⟩
end Go.aA.RV
end
section
namespace Go.aA.RV
open Go.Proofs Go.aA Go.RowKit
def Ki:List Int:=[0,1,28,2,29,14,24,3,30,22,20,15,25,17,4,8,31,27,13,23,21,19,16,7,26,12,18,6,11,5,10,9]
def Kh:List Int:=[0,1,56,2,57,49,28,3,61,58,42,50,38,29,17,4,62,47,59,36,45,43,51,22,53,39,33,30,24,18,12,5,63,55,48,27,60,41,37,16,46,35,44,21,52,32,23,11,54,26,40,15,34,20,31,10,25,14,19,9,13,8,7,6]
def Tf:List Int:=[2,4,6]
def Tg:List Int:=[3,5,7]
theorem Ji {W:World} (hL:laidMet Tryz.prog [("math/bits.deBruijn32tab",Lib.tabData .u8 Ki),("math/bits.deBruijn64tab",Lib.tabData .u8 Kh),("sundial/bits.masks",Lib.tabData .u64 CX),("sundial/lift.more",Lib.tabData .u8 Tf),("sundial/lift.less",Lib.tabData .u8 Tg)] W):cS aT ⟨W,oR W,⟨[]⟩⟩:=by
 have h2:=Lib.tabIs_of_head (g:=2) (by kernel_rfl) (by kernel_rfl) Tryz.underlying146 Tryz.underlying5 (by kernel_rfl) (by kernel_rfl) hL
 have h3:=Lib.tabIs_of_head (g:=3) (by kernel_rfl) (by kernel_rfl) Tryz.underlying147 Tryz.underlying5 (by kernel_rfl) (by kernel_rfl) (laidMet.tail hL)
 have h4:=Lib.tabIs_of_head (g:=4) (by kernel_rfl) (by kernel_rfl) Tryz.underlying148 Tryz.underlying23 (by kernel_rfl) (by kernel_rfl) (laidMet.tail (laidMet.tail hL))
 have h0:=Lib.tabIs_of_head (g:=0) (by kernel_rfl) (by kernel_rfl) Tryz.underlying127 Tryz.underlying5 (by kernel_rfl) (by kernel_rfl) (laidMet.tail (laidMet.tail (laidMet.tail hL)))
 have h1:=Lib.tabIs_of_head (g:=1) (by kernel_rfl) (by kernel_rfl) Tryz.underlying127 Tryz.underlying5 (by kernel_rfl) (by kernel_rfl) (laidMet.tail (laidMet.tail (laidMet.tail (laidMet.tail hL))))
 have e2:Tryz.prog.globalNamed "math/bits.deBruijn32tab" = some 2:=by kernel_rfl
 have e3:Tryz.prog.globalNamed "math/bits.deBruijn64tab" = some 3:=by kernel_rfl
 have e4:Tryz.prog.globalNamed "sundial/bits.masks" = some 4:=by kernel_rfl
 have e0:Tryz.prog.globalNamed "sundial/lift.more" = some 0:=by kernel_rfl
 have e1:Tryz.prog.globalNamed "sundial/lift.less" = some 1:=by kernel_rfl
 unfold Lib.TabIs World.var? at h0 h1 h2 h3 h4
 rw [e0] at h0
 rw [e1] at h1
 rw [e2] at h2
 rw [e3] at h3
 rw [e4] at h4
 simp only [Option.bind_some] at h0 h1 h2 h3 h4
 intro g v e
 have e:cI g=some v:=e
 unfold cI at e
 split at e
 ·cases e
  split at h0
  ·rename_i cs' t fz hh
   simp only [Option.some.injEq] at h0
   subst h0
   refine ⟨(Tf.map fun z=>Value.int .u8 z).toArray,t,fz,Tf.map fun z=>Value.int .u8 z,hh,fun ι'=>ie ι' _ _ (by kernel_rfl),?_⟩
   intro j v hj
   simpa using hj
  ·cases h0
 ·cases e
  split at h1
  ·rename_i cs' t fz hh
   simp only [Option.some.injEq] at h1
   subst h1
   refine ⟨(Tg.map fun z=>Value.int .u8 z).toArray,t,fz,Tg.map fun z=>Value.int .u8 z,hh,fun ι'=>ie ι' _ _ (by kernel_rfl),?_⟩
   intro j v hj
   simpa using hj
  ·cases h1
 ·cases e
  split at h2
  ·rename_i cs' t fz hh
   simp only [Option.some.injEq] at h2
   subst h2
   refine ⟨(Ki.map fun z=>Value.int .u8 z).toArray,t,fz,Ki.map fun z=>Value.int .u8 z,hh,fun ι'=>ie ι' _ _ (by kernel_rfl),?_⟩
   intro j v hj
   simpa using hj
  ·cases h2
 ·cases e
  split at h3
  ·rename_i cs' t fz hh
   simp only [Option.some.injEq] at h3
   subst h3
   refine ⟨(Kh.map fun z=>Value.int .u8 z).toArray,t,fz,Kh.map fun z=>Value.int .u8 z,hh,fun ι'=>ie ι' _ _ (by kernel_rfl),?_⟩
   intro j v hj
   simpa using hj
  ·cases h3
 ·cases e
  split at h4
  ·rename_i cs' t fz hh
   simp only [Option.some.injEq] at h4
   subst h4
   refine ⟨(CX.map fun z=>Value.int .u64 z).toArray,t,fz,CX.map fun z=>Value.int .u64 z,hh,fun ι'=>ie ι' _ _ (by kernel_rfl),?_⟩
   intro j v hj
   simpa using hj
  ·cases h4
 ·cases e
end Go.aA.RV
end
section
namespace Go.aA.dE
open Go.aA.RV
open Go.aA
noncomputable section
abbrev R1:Type:=(ai×(Bool×(Int×(Bool×dC))))
def hJ (x:Int×Int):Int:=cX .i64 (af .i64 (av .u8 (a9 .u8 x.2 x.1) 1)) 8
def df (x:Int×Int):DO:=(2,(0,((imax x.1 (-1)),((-1),(1,(x.2,(false,0)))))))
def tS (x:DO):Tr Bool:=.ite ((ae x.1 1)==true) (.ite ((bK 4 x.2.1)==true) (.ret (bd x.2.1 8)) (.ret false)) (.ret false)
def lG (x:DO):Bool:=(tS x).val
def JU (d:List Int):Nat→Nat→Int→Int
 | 0,_,v=>v
 | n+1,i,v=>JU d n (i+1) (dp .u64 v (b7 .u64 (af .u64 (eX (.int .u8) d i)) ((8 * i:Nat):Int)))
def wv (d:List Int):Int:=JU d d.length 0 0
def mn (d:List Int):Int:=wv d
theorem NL {d:List Int} (_:d.length≤8):mn d=wv d:=rfl
def sA (x:Int):Int:=xN (imax x 1) 8
def ta (x:Int×Int):Int:=af .u64 (a9 .i64 (af .i64 (b7 .u64 x.1 (eG .i64 64 (cX .i64 8 (sA x.2))))) (eG .i64 64 (cX .i64 8 (sA x.2))))
def re (x:Int):Bool:=ae (a9 .u8 x 4) 4
abbrev D4:Type:=(DO×(DO×(DO×DO)))
def VV:DO:=(0,(0,(0,(0,(0,(0,(false,0)))))))
def UM (_:D4):DO×DO:=(VV,VV)
def UL (x:D4):DO×DO:=(x.2.1,x.1)
def UK (x:D4):DO×DO:=(x.1,x.2.1)
def UJ (x:D4):DO×DO:=(x.2.1,VV)
def UI (x:D4):DO×DO:=(x.2.1,x.2.2.2)
def UH (x:D4):DO×DO:=(x.2.1,(1,(1,((-1),((-1),(0,(0,(false,0))))))))
def UG (x:D4):DO×DO:=(x.2.2.1,VV)
def UF (x:D4):DO×DO:=x.2.2
def UE (x:D4):DO×DO:=(VV,x.2.2.2)
def tT (x:DO):Tr Bool:=.ite ((ae x.1 1)==true) (.ite ((bK 4 x.2.1)==true) (.ret (bK x.2.1 7)) (.ret false)) (.ret false)
def eH (x:DO):Bool:=(tT x).val
def za (x:DI):Tr Bool:=.ite ((ae x.1 32)==false) (.ite (ae x.1 33) (.ret (eH x.2.2.2.2.1)) (.ite ((ae x.2.2.1 1)==true) (.ite ((eH x.2.2.2.1)==false) (.ret (eH x.2.2.2.2.1)) (.ret true)) (.ret false))) (.ret (eH x.2.2.2.2.1))
def jQ (x:DI):Bool:=(za x).val
end
end Go.aA.dE
end
section
namespace Go.aA.RV
open Go.Proofs Go.aA
noncomputable def Kb (x:Int):Tr bl:=
 .ret (true,(0,x))
noncomputable def fg (x):=(Kb x).val
def dj (x):=(Kb x).ok
noncomputable def gn:Spec:={dg:=(.a7 (.int .u64)),bG:=aj,n:=1,pre:=dj,f:=fg}
theorem xy:au aT 9 gn:=iO Tryz.f9 [] trivial Kb
inductive RY where
 | h0 (v2:Int) (v3:Int)
noncomputable def qy (x:nE):Tr (RY⊕Int):=
 .ret (.inl (.h0 (x.1.length:Int) 0))
noncomputable def lq (x:nE):RY→Tr (RY⊕Int)
 | .h0 v2 v3=>
 .ite (bd v3 v2) (
 .aa ((0:Int)≤v3)<|
 .aa (v3 < (x.1.length:Int))<|
 .ite (ae x.2 (eX (.int .u8) x.1 (v3).toNat)) (
 .ret (.inr v3)) (
 .ret (.inl (.h0 v2 (aJ .i64 v3 1))))) (
 .ret (.inr (-1)))
noncomputable def QA (x:nE):RY→Head
 | .h0 v2 v3=>
 {fr:={id:=126,kind:=.top,T:=[(.dA (.int .u8) x.1),(.int .u8 x.2)]++List.replicate 5 .any++[(.int .i64 v2),(.int .i64 v3)]++List.replicate 10 .any,items:=[.lp (aH [1,0,1,0,0] (ah Tryz.f126)),.bB 0,.code (aH [1,1] (ah Tryz.f126))],D:=[],base:=0},
  aF:=[],
  H:=[]}
noncomputable def PI:FuncId→Nat→Nat→Option Cut
 | 126,0,0=>some {tmps:=[0,1,7,8],loops:=[],dead:=[],aF:=[]}
 | _,_,_=>none
noncomputable def rk (x):=dq (TC.gN (.int .i64)) (lq x) (qy x)
def AK (x):=∃ r,Ends (lq x) r (qy x)
noncomputable def GD:Spec:={dg:=(.st (.slice (.int .u8)) (.a7 (.int .u8))),bG:=(.int .i64),n:=1,pre:=AK,f:=rk}
theorem XL:au aT 126 GD:=o7 Tryz.f126 [] trivial qy lq QA PI
noncomputable def zY (x:Int):Tr DO:=
 .ret (1,(x,((-1),((-1),(0,(0,(false,0)))))))
noncomputable def ck (x):=(zY x).val
def AH (x):=(zY x).ok
noncomputable def Al:Spec:={dg:=(.a7 (.int .i64)),bG:=CO,n:=1,pre:=AH,f:=ck}
theorem SG:au aT 170 Al:=iO Tryz.f170 [] trivial zY
noncomputable def ql (x:DO):Tr Bool:=
 let y0:IE:=x.2.2.2
 .ite (bd y0.1 0) (
 let y1:=y0.2.1
 .ret (ae y1 1)) (
 let y2:=y0.2.1
 .ite ((bK 1 y2)==true) (
 .ite ((bK y2 8)==true) (
 .ret (ae (av .i64 y2 (eG .i64 y2 1)) 0)) (
 .ret false)) (
 .ret false))
noncomputable def HX (x):=(ql x).val
def AG (x):=(ql x).ok
noncomputable def Gs:Spec:={dg:=(.a7 CO),bG:=.bool,n:=1,pre:=AG,f:=HX}
theorem XA:au aT 172 Gs:=iO Tryz.f172 [] trivial ql
noncomputable def qn (x:DO):Tr Bool:=
 .ite (ae x.1 1) (
 let y0:=x.2.1
 .ite ((bK 0 y0)==true) (
 .ite ((bd y0 16)==true) (
 .aa (AH y0)<|
 .ret (kq CO x (ck y0))) (
 .ret false)) (
 .ret false)) (
 .ite ((cB x.1 2)==false) (
 let y1:=x.2.1
 .ite ((cB y1 0)==false) (
 let y2:=x.2.2
 let y3:=y2.2
 let y4:=y3.2
 let y5:=y4.2
 let y6:=y5.2
 .ite ((cB y6.2 0)==false) (
 let y7:=y5.1
 .ite (cB (af .i64 (af .i32 y7)) y7) (
 .ret false) (
 .ite y6.1 (
 let y8:=y2.1
 .ite ((ae y8 (-1))==true) (
 let y9:=y3.1
 .ite ((ae y9 (-1))==true) (
 .ret (ae y4.1 1)) (
 .ret false)) (
 .ret false)) (
 let y10:=y2.1
 .ite ((bK (-1) y10)==true) (
 .ite ((bd y10 16)==true) (
 let y11:=y3.1
 .ite ((bK (-1) y11)==true) (
 .ite ((bd y11 16)==true) (
 .ite ((cB y11 4)==true) (
 .aa (AG x)<|
 .ret (HX x)) (
 .ret false)) (
 .ret false)) (
 .ret false)) (
 .ret false)) (
 .ret false)))) (
 .ret false)) (
 .ret false)) (
 .ret false))
noncomputable def b6 (x):=(qn x).val
def se (x):=(qn x).ok
noncomputable def uv:Spec:={dg:=(.a7 CO),bG:=.bool,n:=1,pre:=se,f:=b6}
theorem M9:au aT 167 uv:=iO Tryz.f167 [(170,Al),(172,Gs)] ⟨SG,XA,trivial⟩ qn
noncomputable def z7 (x:DO):Tr Bool:=
 .aa (se x)<|
 .ret (b6 x)
noncomputable def eK (x):=(z7 x).val
def cZ (x):=(z7 x).ok
noncomputable def GC:Spec:={dg:=(.a7 CO),bG:=.bool,n:=1,pre:=cZ,f:=eK}
theorem XK:au aT 128 GC:=iO Tryz.f128 [(167,uv)] ⟨M9,trivial⟩ z7
noncomputable def qx (x:DO):Tr Bool:=
 .ite ((ae x.1 1)==true) (
 .aa (se x)<|
 .ret (b6 x)) (
 .ret false)
noncomputable def iV (x):=(qx x).val
def fE (x):=(qx x).ok
noncomputable def GB:Spec:={dg:=(.a7 CO),bG:=.bool,n:=1,pre:=fE,f:=iV}
theorem XJ:au aT 129 GB:=iO Tryz.f129 [(167,uv)] ⟨M9,trivial⟩ qx
noncomputable def qw (x:DO):Tr Bool:=
 .ite ((ae x.1 2)==true) (
 .aa (se x)<|
 .ret (b6 x)) (
 .ret false)
noncomputable def pF (x):=(qw x).val
def lU (x):=(qw x).ok
noncomputable def An:Spec:={dg:=(.a7 CO),bG:=.bool,n:=1,pre:=lU,f:=pF}
theorem SI:au aT 130 An:=iO Tryz.f130 [(167,uv)] ⟨M9,trivial⟩ qw
noncomputable def zX (x:Int):Tr DO:=
 .ret (3,(0,((-1),((-1),(0,(0,(false,x)))))))
noncomputable def yz (x):=(zX x).val
def Fj (x):=(zX x).ok
noncomputable def Gr:Spec:={dg:=(.a7 (.int .i64)),bG:=CO,n:=1,pre:=Fj,f:=yz}
theorem Xz:au aT 173 Gr:=iO Tryz.f173 [] trivial zX
noncomputable def qm (x:DO):Tr Bool:=
 .ite ((ae x.1 3)==true) (
 let y0:=x.2.2.2.2.2.2.2
 .aa (Fj y0)<|
 .ret (kq CO x (yz y0))) (
 .ret false)
noncomputable def tg (x):=(qm x).val
def nZ (x):=(qm x).ok
noncomputable def qG:Spec:={dg:=(.a7 CO),bG:=.bool,n:=1,pre:=nZ,f:=tg}
theorem Hq:au aT 168 qG:=iO Tryz.f168 [(173,Gr)] ⟨Xz,trivial⟩ qm
noncomputable def qv (x:DO):Tr Bool:=
 .aa (nZ x)<|
 .ite ((tg x)==true) (
 let y0:=x.2.2.2.2.2.2.2
 .ret (ae (af .i64 (af .i8 y0)) y0)) (
 .ret false)
noncomputable def yA (x):=(qv x).val
def si (x):=(qv x).ok
noncomputable def GA:Spec:={dg:=(.a7 CO),bG:=.bool,n:=1,pre:=si,f:=yA}
theorem XI:au aT 131 GA:=iO Tryz.f131 [(168,qG)] ⟨Hq,trivial⟩ qv
noncomputable def qu (x:DO):Tr Bool:=
 .aa (nZ x)<|
 .ite ((tg x)==true) (
 let y0:=x.2.2.2.2.2.2.2
 .ret (ae (af .i64 (af .i32 y0)) y0)) (
 .ret false)
noncomputable def pE (x):=(qu x).val
def lT (x):=(qu x).ok
noncomputable def Gz:Spec:={dg:=(.a7 CO),bG:=.bool,n:=1,pre:=lT,f:=pE}
theorem XH:au aT 132 Gz:=iO Tryz.f132 [(168,qG)] ⟨Hq,trivial⟩ qu
noncomputable def zZ (x:Int):Tr DO:=
 .ret (1,((aJ .i64 (av .i64 x 15) 16),((-1),((-1),(0,(0,(false,0)))))))
noncomputable def HY (x):=(zZ x).val
def Fk (x):=(zZ x).ok
noncomputable def Gt:Spec:={dg:=(.a7 (.int .i64)),bG:=CO,n:=1,pre:=Fk,f:=HY}
theorem XB:au aT 169 Gt:=iO Tryz.f169 [] trivial zZ
noncomputable def qt (x:DO):Tr Bool:=
 .ite ((ae x.1 1)==true) (
 let y0:=x.2.1
 .ite ((ae (ic .i64 y0 15) 16)==true) (
 .aa (Fk y0)<|
 .ret (kq CO x (HY y0))) (
 .ret false)) (
 .ret false)
noncomputable def ot (x):=(qt x).val
def kG (x):=(qt x).ok
noncomputable def Am:Spec:={dg:=(.a7 CO),bG:=.bool,n:=1,pre:=kG,f:=ot}
theorem SH:au aT 135 Am:=iO Tryz.f135 [(169,Gt)] ⟨XB,trivial⟩ qt
noncomputable def qq (x:DO):Tr Bool:=
 .aa (kG x)<|
 .ite ((ot x)==false) (
 .aa (lU x)<|
 .ret (pF x)) (
 .ret true)
noncomputable def rj (x):=(qq x).val
def mX (x):=(qq x).ok
noncomputable def Gy:Spec:={dg:=(.a7 CO),bG:=.bool,n:=1,pre:=mX,f:=rj}
theorem XG:au aT 136 Gy:=iO Tryz.f136 [(130,An),(135,Am)] ⟨SI,SH,trivial⟩ qq
noncomputable def qp (x:DO):Tr Bool:=
 .aa (nZ x)<|
 .ite ((tg x)==true) (
 let y0:=x.2.2.2.2.2.2.2
 .ret (ae (af .i64 (af .u8 y0)) y0)) (
 .ret false)
noncomputable def ri (x):=(qp x).val
def mW (x):=(qp x).ok
noncomputable def Gx:Spec:={dg:=(.a7 CO),bG:=.bool,n:=1,pre:=mW,f:=ri}
theorem XF:au aT 138 Gx:=iO Tryz.f138 [(168,qG)] ⟨Hq,trivial⟩ qp
noncomputable def z6 (x:DO):Tr Bool:=
 .aa (AH 1)<|
 .ret (kq CO x (ck 1))
noncomputable def H3 (x):=(z6 x).val
def AJ (x):=(z6 x).ok
noncomputable def Gw:Spec:={dg:=(.a7 CO),bG:=.bool,n:=1,pre:=AJ,f:=H3}
theorem XE:au aT 139 Gw:=iO Tryz.f139 [(170,Al)] ⟨SG,trivial⟩ z6
noncomputable def z3 (x:DO):Tr Bool:=
 .ret (kq CO x (0,(0,(0,(0,(0,(0,(false,0))))))))
noncomputable def ij (x):=(z3 x).val
def fp (x):=(z3 x).ok
noncomputable def Gv:Spec:={dg:=(.a7 CO),bG:=.bool,n:=1,pre:=fp,f:=ij}
theorem XD:au aT 153 Gv:=iO Tryz.f153 [] trivial z3
inductive RW where
 | h0 (v2:Int) (v3:Int)
noncomputable def qo (x:nE):Tr (RW⊕Int):=
 .ret (.inl (.h0 (x.1.length:Int) 0))
noncomputable def ll (x:nE):RW→Tr (RW⊕Int)
 | .h0 v2 v3=>
 .ite (bd v3 v2) (
 .aa ((0:Int)≤v3)<|
 .aa (v3 < (x.1.length:Int))<|
 .ite (ae x.2 (eX (.int .i64) x.1 (v3).toNat)) (
 .ret (.inr v3)) (
 .ret (.inl (.h0 v2 (aJ .i64 v3 1))))) (
 .ret (.inr (-1)))
noncomputable def Qz (x:nE):RW→Head
 | .h0 v2 v3=>
 {fr:={id:=163,kind:=.top,T:=[(.dA (.int .i64) x.1),(.int .i64 x.2)]++List.replicate 5 .any++[(.int .i64 v2),(.int .i64 v3)]++List.replicate 10 .any,items:=[.lp (aH [1,0,1,0,0] (ah Tryz.f163)),.bB 0,.code (aH [1,1] (ah Tryz.f163))],D:=[],base:=0},
  aF:=[],
  H:=[]}
noncomputable def PH:FuncId→Nat→Nat→Option Cut
 | 163,0,0=>some {tmps:=[0,1,7,8],loops:=[],dead:=[],aF:=[]}
 | _,_,_=>none
noncomputable def HZ (x):=dq (TC.gN (.int .i64)) (ll x) (qo x)
def MN (x):=∃ r,Ends (ll x) r (qo x)
noncomputable def Gu:Spec:={dg:=(.st (.slice (.int .i64)) (.a7 (.int .i64))),bG:=(.int .i64),n:=1,pre:=MN,f:=HZ}
theorem XC:au aT 163 Gu:=o7 Tryz.f163 [] trivial qo ll Qz PH
noncomputable def z9 (x:nE):Tr Bool:=
 .aa (MN x)<|
 .ret (bK 0 (HZ x))
noncomputable def pG (x):=(z9 x).val
def AL (x):=(z9 x).ok
noncomputable def GI:Spec:={dg:=(.st (.slice (.int .i64)) (.a7 (.int .i64))),bG:=.bool,n:=1,pre:=AL,f:=pG}
theorem XP:au aT 119 GI:=iO Tryz.f119 [(163,Gu)] ⟨XC,trivial⟩ z9
end Go.aA.RV
end
section
namespace Go.aA.RV
open Go.Proofs Go.aA
inductive nD where
 | h0
 | h1 (v43:ai) (v59:Int) (v65:Int) (v68:ai) (v69:ai) (v70:ai) (v71:ai)
 | h2 (v43:ai) (v62:ai) (v63:ai) (v64:ai) (v86:ai) (v105:ai) (v106:ai) (v107:ai) (v108:ai) (v115:ai)
 | h3 (v43:ai) (v50:ai)
 | h4 (v43:ai) (v56:ai) (v57:ai)
 | h5 (v43:ai) (v47:Int) (v50:ai)
 | h6 (v43:ai) (v47:Int) (v53:Int) (v56:ai) (v57:ai)
 | h7 (v43:ai) (v50:ai)
 | h8 (v43:ai) (v50:ai)
 | h9 (v43:ai) (v56:ai) (v57:ai)
 | ED (v43:ai) (v50:ai)
 | BP (v43:ai) (v49:Int) (v50:ai)
 | JV (v43:ai) (v50:ai)
 | QH (v43:ai) (v56:ai) (v57:ai)
 | Jr (v43:ai) (v50:ai)
 | DL (v43:ai) (v50:ai)
 | HQ (v43:ai) (v50:ai)
 | qY
 | QG (v43:ai) (v59:Int) (v65:Int) (v68:ai) (v69:ai) (v70:ai) (v71:ai)
 | A9 (v43:ai) (v62:ai) (v63:ai) (v64:ai) (v86:ai) (v105:ai) (v106:ai) (v107:ai) (v108:ai) (v115:ai)
 | NJ (v43:ai) (v56:ai) (v57:ai)
 | QF (v43:ai) (v47:Int) (v53:Int) (v56:ai) (v57:ai)
 | QE (v43:ai) (v56:ai) (v57:ai)
 | Jq (v43:ai) (v56:ai) (v57:ai)
 | QD (v43:ai) (v59:Int) (v65:Int) (v68:ai) (v69:ai) (v70:ai) (v71:ai)
 | yx (v43:ai) (v62:ai) (v63:ai) (v64:ai) (v86:ai) (v105:ai) (v106:ai) (v107:ai) (v108:ai) (v115:ai)
 | Pw (v43:ai) (v59:Int) (v65:Int) (v68:ai) (v69:ai) (v70:ai) (v71:ai)
 | qh (v43:ai) (v62:ai) (v63:ai) (v64:ai) (v86:ai) (v105:ai) (v106:ai) (v107:ai) (v108:ai) (v115:ai)
 | EC (v43:ai) (v62:ai) (v63:ai) (v64:ai) (v86:ai) (v105:ai) (v106:ai) (v107:ai) (v108:ai) (v115:ai)
 | Jp (v43:ai) (v62:ai) (v63:ai) (v64:ai) (v86:ai) (v105:ai) (v106:ai) (v107:ai) (v108:ai) (v115:ai)
 | QC (v43:ai) (v50:ai) (v72:ai) (v91:ai) (v92:ai) (v93:ai) (v94:ai) (v113:ai) (v114:ai) (v115:ai)
noncomputable def va (x:DI):Tr (nD⊕eL):=
 .ite ((ae x.1 29)==false) (
 .ite ((ae x.1 30)==false) (
 let y0:=x.2.1
 let y1:=((bd 15 y0)==false)
 .ite y1 (
 .ite ((!(ae x.1 31))==true) (
 .ite ((cB y0 0)==false) (
 let y2:=((cB x.1 39)==true)
 .ite y2 (
 let y3:=(cB x.2.2.2.2.2.1 0)
 .ite y3 (
 let y4:eL:=((([]:List Int),(0,())),(((),((),(([]:List Int),(0,(0,0))))),false))
 .ret (.inr y4)) (
 .ret (.inl (.h0)))) (
 .ret (.inl (.h0)))) (
 let y5:eL:=((([]:List Int),(0,())),(((),((),(([]:List Int),(0,(0,0))))),false))
 .ret (.inr y5))) (
 let y6:=((cB x.1 39)==true)
 .ite y6 (
 let y7:=(cB x.2.2.2.2.2.1 0)
 .ite y7 (
 let y8:eL:=((([]:List Int),(0,())),(((),((),(([]:List Int),(0,(0,0))))),false))
 .ret (.inr y8)) (
 .ret (.inl (.h0)))) (
 .ret (.inl (.h0))))) (
 let y9:eL:=((([]:List Int),(0,())),(((),((),(([]:List Int),(0,(0,0))))),false))
 .ret (.inr y9))) (
 let y10:=x.2.1
 let y11:=((bd 15 y10)==false)
 .ite y11 (
 let y12:=((cB x.1 39)==true)
 .ite y12 (
 let y13:=(cB x.2.2.2.2.2.1 0)
 .ite y13 (
 let y14:eL:=((([]:List Int),(0,())),(((),((),(([]:List Int),(0,(0,0))))),false))
 .ret (.inr y14)) (
 .ret (.inl (.h0)))) (
 .ret (.inl (.h0)))) (
 let y15:eL:=((([]:List Int),(0,())),(((),((),(([]:List Int),(0,(0,0))))),false))
 .ret (.inr y15)))) (
 let y16:=x.2.1
 let y17:=((bd 15 y16)==false)
 .ite y17 (
 let y18:=((cB x.1 39)==true)
 .ite y18 (
 let y19:=(cB x.2.2.2.2.2.1 0)
 .ite y19 (
 let y20:eL:=((([]:List Int),(0,())),(((),((),(([]:List Int),(0,(0,0))))),false))
 .ret (.inr y20)) (
 .ret (.inl (.h0)))) (
 .ret (.inl (.h0)))) (
 let y21:eL:=((([]:List Int),(0,())),(((),((),(([]:List Int),(0,(0,0))))),false))
 .ret (.inr y21)))
def dr (x:DI):Int:=cond (ae x.1 12) 0 (cond (ae x.1 13) 1 (cond (ae x.1 15) 2 (cond (ae x.1 14) 3 (cond (ae x.1 22) 4 (cond (ae x.1 23) 6 (cond (ae x.1 19) 0 (cond (ae x.1 20) 1 (cond (ae x.1 16) 4 (cond (ae x.1 17) 5 (cond (ae x.1 18) 7 0))))))))))
noncomputable def dZ {J α:Type} (x:DI) (ws:List Int) (pa:DO→Prop) (fa:DO→Bool) (pb:DO→Prop) (fb:DO→Bool) (yes no:Tr (J⊕α)):Tr (J⊕α):=
 .aa (AL (ws,x.2.2.1))<|.ite (pG (ws,x.2.2.1)==true) (.aa (pa x.2.2.2.1)<|.ite (fa x.2.2.2.1==true) (.aa (pb x.2.2.2.2.1)<|.ite (fb x.2.2.2.2.1==true) yes no) no) no
def lh (w:List Int) (p:Int) (c:List Int) (d o n:Int):eL:=((w,(p,())),(((),((),(c,(d,(o,n))))),true))
def oe {J α:Type}:List (Nat×Nat)→Tr (J⊕α)→Tr (J⊕α)
 | [],t=>t
 | p :: l,t=>.aa (p.1 < p.2) (oe l t)
def gC {J α:Type} (n:Int) (t:Tr (J⊕α)):Tr (J⊕α):=.aa ((0:Int)≤0)<|.aa (0 < n) t
def cD {J α:Type} (n:Nat) (t:Tr (J⊕α)):Tr (J⊕α):=.aa (((0:Nat)+n:Nat)≤n) t
noncomputable def SX (x:DI):Tr (nD⊕eL):=oe [(0,1),(0,1),(0,1),(0,1),(0,2),(1,2)]<|gC 1<|gC 4<|cD 2<|dZ x [4,8] cZ eK fE iV (cD 2<|cD 1<|.ret (.inr (lh [4,8] 0 [(af .u8 (aJ .i64 (cX .i64 8 (rk ([3,4,5,6,7,8,9,10],x.1))) 1))] (-1) 1 0))) (.ret (.inl (.h1 [4,8] (rk ([3,4,5,6,7,8,9,10],x.1)) (rk ([3,4,5,6,7,8,9,10],x.1)) [(af .u8 (aJ .i64 (cX .i64 8 (rk ([3,4,5,6,7,8,9,10],x.1))) 1))] [(af .u8 (aJ .i64 (cX .i64 8 (rk ([3,4,5,6,7,8,9,10],x.1))) 3))] [131] [129])))
noncomputable def SZ (x:DI):Tr (nD⊕eL):=oe [(0,1),(0,1),(0,1),(0,1),(0,2),(1,2),(0,1),(0,1),(0,1),(0,1),(0,1)]<|gC 3<|gC 3<|cD 1<|dZ x [1] cZ eK fE iV (cD 1<|cD 1<|.ret (.inr (lh [1] 0 [136] (-1) 1 0))) (.ret (.inl (.h2 [1] [136] [138] [198] [4,8] [137] [139] [199] [8] [184])))
noncomputable def SY (x:DI):Tr (nD⊕eL):=oe [(0,1),(0,2),(1,2)]<|gC 1<|gC 1<|cD 2<|dZ x [4,8] fE iV lU pF (cD 2<|cD 1<|.ret (.inr (lh [4,8] 0 [141] (-1) 2 0))) (.ret (.inl (.h3 [4,8] [141])))
noncomputable def OY (x:DI):Tr (nD⊕eL):=oe [(0,1),(0,1),(0,2),(1,2)]<|gC 1<|gC 2<|cD 2<|dZ x [4,8] cZ eK fE iV (cD 2<|cD 1<|.ret (.inr (lh [4,8] 0 [133] (-1) 1 0))) (.ret (.inl (.h4 [4,8] [133] [247])))
noncomputable def OX (x:DI):Tr (nD⊕eL):=oe [(0,1),(0,2),(1,2)]<|gC 1<|gC 1<|cD 2<|dZ x [4,8] cZ eK fp ij (cD 2<|cD 1<|.ret (.inr (lh [4,8] 0 [255] (dr x) 1 0))) (.ret (.inl (.h5 [4,8] (dr x) [255])))
noncomputable def OW (x:DI):Tr (nD⊕eL):=oe [(0,1),(0,2),(1,2)]<|gC 1<|gC 1<|cD 2<|dZ x [4,8] cZ eK fp ij (cD 2<|cD 1<|.ret (.inr (lh [4,8] 0 [255] (dr x) 1 0))) (.ret (.inl (.h5 [4,8] (dr x) [255])))
noncomputable def OU (x:DI):Tr (nD⊕eL):=oe [(0,1),(0,2),(1,2)]<|gC 1<|gC 1<|cD 2<|dZ x [4,8] cZ eK fp ij (cD 2<|cD 1<|.ret (.inr (lh [4,8] 0 [247] (dr x) 1 0))) (.ret (.inl (.h5 [4,8] (dr x) [247])))
noncomputable def OV (x:DI):Tr (nD⊕eL):=oe [(0,1),(0,2),(1,2)]<|gC 1<|gC 1<|cD 2<|dZ x [4,8] cZ eK fp ij (cD 2<|cD 1<|.ret (.inr (lh [4,8] 0 [247] (dr x) 1 0))) (.ret (.inl (.h5 [4,8] (dr x) [247])))
noncomputable def ON (x:DI):Tr (nD⊕eL):=oe [(0,1),(0,2),(1,2)]<|gC 1<|gC 1<|cD 2<|dZ x [4,8] cZ eK fp ij (cD 2<|cD 1<|.ret (.inr (lh [4,8] 0 [247] (dr x) 1 0))) (.ret (.inl (.h5 [4,8] (dr x) [247])))
noncomputable def OM (x:DI):Tr (nD⊕eL):=oe [(0,1),(0,2),(1,2)]<|gC 1<|gC 1<|cD 2<|dZ x [4,8] cZ eK fp ij (cD 2<|cD 1<|.ret (.inr (lh [4,8] 0 [247] (dr x) 1 0))) (.ret (.inl (.h5 [4,8] (dr x) [247])))
noncomputable def OQ (x:DI):Tr (nD⊕eL):=oe [(0,1),(0,1),(0,2),(1,2)]<|gC 1<|gC 2<|cD 2<|dZ x [4,8] cZ eK mW ri (cD 2<|cD 1<|.ret (.inr (lh [4,8] 0 [193] (dr x) 1 1))) (.ret (.inl (.h6 [4,8] (dr x) (dr x) [193] [211])))
noncomputable def OP (x:DI):Tr (nD⊕eL):=oe [(0,1),(0,1),(0,2),(1,2)]<|gC 1<|gC 2<|cD 2<|dZ x [4,8] cZ eK mW ri (cD 2<|cD 1<|.ret (.inr (lh [4,8] 0 [193] (dr x) 1 1))) (.ret (.inl (.h6 [4,8] (dr x) (dr x) [193] [211])))
noncomputable def OT (x:DI):Tr (nD⊕eL):=oe [(0,1),(0,1),(0,2),(1,2)]<|gC 1<|gC 2<|cD 2<|dZ x [4,8] cZ eK mW ri (cD 2<|cD 1<|.ret (.inr (lh [4,8] 0 [193] (dr x) 1 1))) (.ret (.inl (.h6 [4,8] (dr x) (dr x) [193] [211])))
noncomputable def OS (x:DI):Tr (nD⊕eL):=oe [(0,1),(0,1),(0,2),(1,2)]<|gC 1<|gC 2<|cD 2<|dZ x [4,8] cZ eK mW ri (cD 2<|cD 1<|.ret (.inr (lh [4,8] 0 [193] (dr x) 1 1))) (.ret (.inl (.h6 [4,8] (dr x) (dr x) [193] [211])))
noncomputable def OR (x:DI):Tr (nD⊕eL):=oe [(0,1),(0,1),(0,2),(1,2)]<|gC 1<|gC 2<|cD 2<|dZ x [4,8] cZ eK mW ri (cD 2<|cD 1<|.ret (.inr (lh [4,8] 0 [193] (dr x) 1 1))) (.ret (.inl (.h6 [4,8] (dr x) (dr x) [193] [211])))
noncomputable def OO (x:DI):Tr (nD⊕eL):=oe [(0,2),(1,2),(0,2),(1,2)]<|gC 1<|gC 1<|cD 2<|dZ x [4,8] fE iV cZ eK (cD 2<|cD 2<|.ret (.inr (lh [4,8] 0 [15,175] (-1) 2 0))) (.ret (.inl (.h7 [4,8] [15,175])))
noncomputable def OG (x:DI):Tr (nD⊕eL):=oe [(0,2),(1,2),(0,2),(1,2)]<|gC 1<|gC 1<|cD 2<|dZ x [4,8] fE iV cZ eK (cD 2<|cD 2<|.ret (.inr (lh [4,8] 0 [15,(aJ .u8 64 (av .u8 x.2.1 15))] (-1) 2 0))) (.ret (.inl (.h7 [4,8] [15,(aJ .u8 64 (av .u8 x.2.1 15))])))
noncomputable def OF (x:DI):Tr (nD⊕eL):=oe [(0,1),(0,2),(1,2)]<|gC 1<|gC 1<|cD 1<|dZ x [1] cZ eK fp ij (cD 1<|cD 2<|.ret (.inr (lh [1] 0 [15,(aJ .u8 144 (av .u8 x.2.1 15))] 0 1 0))) (.ret (.inl (.h8 [1] [15,(aJ .u8 144 (av .u8 x.2.1 15))])))
noncomputable def OE (x:DI):Tr (nD⊕eL):=oe [(0,2),(1,2),(0,2),(1,2)]<|gC 1<|gC 1<|cD 2<|dZ x [4,8] fE iV cZ eK (cD 2<|cD 2<|.ret (.inr (lh [4,8] 0 [15,182] (-1) 2 0))) (.ret (.inl (.h7 [4,8] [15,182])))
noncomputable def OD (x:DI):Tr (nD⊕eL):=oe [(0,2),(1,2),(0,2),(1,2)]<|gC 1<|gC 1<|cD 2<|dZ x [4,8] fE iV cZ eK (cD 2<|cD 2<|.ret (.inr (lh [4,8] 0 [15,190] (-1) 2 0))) (.ret (.inl (.h7 [4,8] [15,190])))
noncomputable def OB (x:DI):Tr (nD⊕eL):=oe [(0,2),(1,2),(0,2),(1,2),(0,1)]<|gC 1<|gC 2<|cD 1<|dZ x [16] kG ot mX rj (cD 1<|cD 2<|.ret (.inr (lh [16] 243 [15,111] (-1) 2 0))) (.ret (.inl (.h9 [16] [15,111] [15,127])))
noncomputable def OA (x:DI):Tr (nD⊕eL):=oe [(0,2),(1,2),(0,1)]<|gC 1<|gC 1<|cD 1<|dZ x [16] kG ot mX rj (cD 1<|cD 2<|.ret (.inr (lh [16] 102 [15,239] (-1) 2 0))) (.ret (.inl (.ED [16] [15,239])))
noncomputable def Oz (x:DI):Tr (nD⊕eL):=oe [(0,3),(1,3),(2,3),(0,1)]<|gC 1<|gC 1<|cD 1<|dZ x [16] kG ot mX rj (cD 1<|cD 3<|.ret (.inr (lh [16] 102 [15,56,220] (-1) 2 0))) (.ret (.inl (.BP [16] 0 [15,56,220])))
noncomputable def Oy (x:DI):Tr (nD⊕eL):=oe [(0,3),(1,3),(2,3),(0,1)]<|gC 1<|gC 1<|cD 1<|dZ x [16] kG ot mX rj (cD 1<|cD 3<|.ret (.inr (lh [16] 102 [15,56,221] (-1) 2 0))) (.ret (.inl (.BP [16] 0 [15,56,221])))
noncomputable def Ox (x:DI):Tr (nD⊕eL):=oe [(0,3),(1,3),(2,3),(0,1)]<|gC 1<|gC 1<|cD 1<|dZ x [16] kG ot mX rj (cD 1<|cD 3<|.ret (.inr (lh [16] 102 [15,58,68] (-1) 2 1))) (.ret (.inl (.BP [16] 1 [15,58,68])))
noncomputable def OK (x:DI):Tr (nD⊕eL):=oe [(0,1),(0,2),(1,2)]<|gC 1<|gC 1<|cD 2<|dZ x [8,8] fp ij lT pE (cD 2<|cD 1<|.ret (.inr (lh [8,8] 0 [232] 0 0 4))) (.ret (.inl (.JV [8,8] [232])))
noncomputable def OI (x:DI):Tr (nD⊕eL):=oe [(0,1),(0,1),(0,2),(1,2)]<|gC 1<|gC 2<|cD 2<|dZ x [8,8] fp ij lT pE (cD 2<|cD 1<|.ret (.inr (lh [8,8] 0 [233] 0 0 4))) (.ret (.inl (.QH [8,8] [233] [255])))
noncomputable def OH (x:DI):Tr (nD⊕eL):=oe [(0,2),(1,2),(0,2),(1,2)]<|gC 1<|gC 1<|cD 2<|dZ x [8,8] fp ij lT pE (cD 2<|cD 2<|.ret (.inr (lh [8,8] 0 [15,(aJ .u8 128 (av .u8 x.2.1 15))] 0 0 4))) (.ret (.inl (.Jr [8,8] [15,(aJ .u8 128 (av .u8 x.2.1 15))])))
noncomputable def OJ (x:DI):Tr (nD⊕eL):=oe [(0,1),(0,2),(1,2)]<|gC 1<|gC 1<|cD 2<|dZ x [8,8] fp ij fp ij (cD 2<|cD 1<|.ret (.inr (lh [8,8] 0 [195] 0 0 0))) (.ret (.inl (.DL [8,8] [195])))
noncomputable def OC (x:DI):Tr (nD⊕eL):=oe [(0,1),(0,2),(1,2)]<|gC 1<|gC 1<|cD 2<|dZ x [8,8] fp ij fp ij (cD 2<|cD 1<|.ret (.inr (lh [8,8] 0 [144] 0 0 0))) (.ret (.inl (.DL [8,8] [144])))
noncomputable def OL (x:DI):Tr (nD⊕eL):=oe [(0,1),(0,2),(1,2)]<|gC 1<|gC 1<|cD 2<|dZ x [8,8] fE iV fp ij (cD 2<|cD 1<|.ret (.inr (lh [8,8] 0 [80] 0 3 0))) (.ret (.inl (.HQ [8,8] [80])))
noncomputable def oF (x:DI):Tr (nD⊕eL):=.ite (ae x.1 26) (OK x) (.ite (ae x.1 28) (OI x) (.ite (ae x.1 29) (OH x) (.ite (ae x.1 27) (OJ x) (.ite (ae x.1 34) (OC x) (.ite (ae x.1 24) (OL x) (oe [(0,1),(0,2),(1,2)]<|gC 1<|gC 1<|cD 2<|dZ x [8,8] fE iV fp ij (cD 2<|cD 1<|.ret (.inr (lh [8,8] 0 [88] 0 3 0))) (.ret (.inl (.HQ [8,8] [88])))))))))
noncomputable def F1 (x:DI):Tr (nD⊕eL):=.ite ((ae x.1 29)==false) (.ite ((ae x.1 27)==false) (.ite ((ae x.1 34)==false) (.ite ((ae x.1 24)==false) (.ite (ae x.1 25) (oF x) (.ret (.inl (.qY)))) (oF x)) (oF x)) (oF x)) (oF x)
noncomputable def fc (x:DI):nD→Tr (nD⊕eL)
 | .h0=>.aa ((0:Nat) < 8)<|.aa ((1:Nat) < 8)<|.aa ((2:Nat) < 8)<|.aa ((3:Nat) < 8)<|.aa ((4:Nat) < 8)<|.aa ((5:Nat) < 8)<|.aa ((6:Nat) < 8)<|.aa ((7:Nat) < 8)<|.aa (((0:Nat)+8:Nat)≤8)<|.aa (AK ([3,4,5,6,7,8,9,10],x.1))<|.ite (bK 0 (rk ([3,4,5,6,7,8,9,10],x.1))) (SX x) (.ite (ae x.1 1) (SZ x) (.ite (ae x.1 2) (SY x) (.ite (ae x.1 11) (OY x) (.ite (ae x.1 12) (OX x) (.ite (ae x.1 13) (OW x) (.ite (ae x.1 15) (OU x) (.ite (ae x.1 14) (OV x) (.ite (ae x.1 22) (ON x) (.ite (ae x.1 23) (OM x) (.ite (ae x.1 19) (OQ x) (.ite (ae x.1 20) (OP x) (.ite (ae x.1 16) (OT x) (.ite (ae x.1 17) (OS x) (.ite (ae x.1 18) (OR x) (.ite (ae x.1 21) (OO x) (.ite (ae x.1 30) (OG x) (.ite (ae x.1 31) (OF x) (.ite (ae x.1 32) (OE x) (.ite (ae x.1 33) (OD x) (.ite (ae x.1 35) (OB x) (.ite (ae x.1 36) (OA x) (.ite (ae x.1 37) (Oz x) (.ite (ae x.1 38) (Oy x) (.ite (ae x.1 39) (Ox x) (.ite ((ae x.1 26)==false) (.ite ((ae x.1 28)==false) (F1 x) (oF x)) (oF x))))))))))))))))))))))))))
 | .h1 v43 v59 v65 v68 v69 v70 v71=>.aa ((0:Int)≤1)<|.aa (1 < (4:Int))<|cD 2<|dZ x (v43.take 2) fE iV lU pF (cD 2<|cD 1<|.ret (.inr (lh (v43.take 2) 0 (v69.take 1) (-1) 2 0))) (.ret (.inl (.QG v43 v59 v65 v68 v69 v70 v71)))
 | .h2 v43 v62 v63 v64 v86 v105 v106 v107 v108 v115=>.aa ((0:Int)≤1)<|.aa (1 < (3:Int))<|cD 1<|dZ x (v43.take 1) fE iV lU pF (cD 1<|cD 1<|.ret (.inr (lh (v43.take 1) 0 (v63.take 1) (-1) 2 0))) (.ret (.inl (.A9 v43 v62 v63 v64 v86 v105 v106 v107 v108 v115)))
 | .h3 _ _=>.ret (.inl (.qY))
 | .h4 v43 v56 v57=>.aa ((0:Int)≤1)<|.aa (1 < (2:Int))<|cD 2<|dZ x (v43.take 2) cZ eK lT pE (cD 2<|cD 1<|.ret (.inr (lh (v43.take 2) 0 (v57.take 1) 0 1 4))) (.ret (.inl (.NJ v43 v56 v57)))
 | .h5 _ _ _=>.ret (.inl (.qY))
 | .h6 v43 v47 v53 v56 v57=>.aa ((0:Int)≤1)<|.aa (1 < (2:Int))<|cD 2<|dZ x (v43.take 2) cZ eK AJ H3 (cD 2<|cD 1<|.ret (.inr (lh (v43.take 2) 0 (v57.take 1) v53 1 0))) (.ret (.inl (.QF v43 v47 v53 v56 v57)))
 | .h7 _ _=>.ret (.inl (.qY))
 | .h8 _ _=>.ret (.inl (.qY))
 | .h9 v43 v56 v57=>.aa ((0:Int)≤1)<|.aa (1 < (2:Int))<|cD 1<|dZ x (v43.take 1) lU pF kG ot (cD 1<|cD 2<|.ret (.inr (lh (v43.take 1) 243 (v57.take 2) (-1) 1 0))) (.ret (.inl (.QE v43 v56 v57)))
 | .ED _ _=>.ret (.inl (.qY))
 | .BP _ _ _=>.ret (.inl (.qY))
 | .JV _ _=>.ret (.inl (.qY))
 | .QH v43 v56 v57=>.aa ((0:Int)≤1)<|.aa (1 < (2:Int))<|cD 2<|dZ x (v43.take 2) cZ eK fp ij (cD 2<|cD 1<|.ret (.inr (lh (v43.take 2) 0 (v57.take 1) 4 1 0))) (.ret (.inl (.Jq v43 v56 v57)))
 | .Jr _ _=>.ret (.inl (.qY))
 | .DL _ _=>.ret (.inl (.qY))
 | .HQ _ _=>.ret (.inl (.qY))
 | .qY=>.ret (.inr ((([]:List Int),(0,())),(((),((),(([]:List Int),(0,(0,0))))),false)))
 | .QG v43 v59 v65 v68 v69 v70 v71=>.aa ((0:Int)≤2)<|.aa (2 < (4:Int))<|cD 2<|dZ x (v43.take 2) cZ eK si yA (cD 2<|cD 1<|.ret (.inr (lh (v43.take 2) 0 (v70.take 1) v59 1 1))) (.ret (.inl (.QD v43 v59 v65 v68 v69 v70 v71)))
 | .A9 v43 v62 v63 v64 v86 v105 v106 v107 v108 v115=>.aa ((0:Int)≤2)<|.aa (2 < (3:Int))<|cD 1<|dZ x (v43.take 1) cZ eK si yA (cD 1<|cD 1<|.ret (.inr (lh (v43.take 1) 0 (v64.take 1) 0 1 1))) (.ret (.inl (.yx v43 v62 v63 v64 v86 v105 v106 v107 v108 v115)))
 | .NJ _ _ _=>.ret (.inl (.qY))
 | .QF _ _ _ _ _=>.ret (.inl (.qY))
 | .QE _ _ _=>.ret (.inl (.qY))
 | .Jq _ _ _=>.ret (.inl (.qY))
 | .QD v43 v59 v65 v68 v69 v70 v71=>.aa ((0:Int)≤3)<|.aa (3 < (4:Int))<|cD 2<|dZ x (v43.take 2) cZ eK lT pE (cD 2<|cD 1<|.ret (.inr (lh (v43.take 2) 0 (v71.take 1) v65 1 4))) (.ret (.inl (.Pw v43 v59 v65 v68 v69 v70 v71)))
 | .yx v43 v62 v63 v64 v86 v105 v106 v107 v108 v115=>.aa ((0:Int)≤1)<|.aa (1 < (3:Int))<|gC 3<|cD 2<|dZ x (v86.take 2) cZ eK fE iV (cD 2<|cD 1<|.ret (.inr (lh (v86.take 2) 0 (v105.take 1) (-1) 1 0))) (.ret (.inl (.qh v86 v105 v106 v107 v43 v62 v63 v64 v108 v115)))
 | .Pw _ _ _ _ _ _ _=>.ret (.inl (.qY))
 | .qh v43 v62 v63 v64 v86 v105 v106 v107 v108 v115=>.aa ((0:Int)≤1)<|.aa (1 < (3:Int))<|cD 2<|dZ x (v43.take 2) fE iV lU pF (cD 2<|cD 1<|.ret (.inr (lh (v43.take 2) 0 (v63.take 1) (-1) 2 0))) (.ret (.inl (.EC v43 v62 v63 v64 v86 v105 v106 v107 v108 v115)))
 | .EC v43 v62 v63 v64 v86 v105 v106 v107 v108 v115=>.aa ((0:Int)≤2)<|.aa (2 < (3:Int))<|cD 2<|dZ x (v43.take 2) cZ eK lT pE (cD 2<|cD 1<|.ret (.inr (lh (v43.take 2) 0 (v64.take 1) 0 1 4))) (.ret (.inl (.Jp v43 v62 v63 v64 v86 v105 v106 v107 v108 v115)))
 | .Jp v43 v62 v63 v64 v86 v105 v106 v107 v108 v115=>.aa ((0:Int)≤2)<|.aa (2 < (3:Int))<|gC 1<|cD 1<|dZ x (v108.take 1) fE iV nZ tg (cD 1<|cD 1<|.ret (.inr (lh (v108.take 1) 0 (v115.take 1) 0 3 8))) (.ret (.inl (.QC v108 v115 v86 v105 v106 v107 v43 v62 v63 v64)))
 | .QC _ _ _ _ _ _ _ _ _ _=>.ret (.inl (.qY))
noncomputable def cg (x:DI):aG:=.cell true 28 (.agg [1,1,1,8,8,1,1] [(.int .u8 x.1),(.int .u8 x.2.1),(.int .i64 x.2.2.1),(.agg [1,1,1,1,1,1,1,1] [(.int .u8 x.2.2.2.1.1),(.int .i64 x.2.2.2.1.2.1),(.int .i64 x.2.2.2.1.2.2.1),(.int .i64 x.2.2.2.1.2.2.2.1),(.int .i64 x.2.2.2.1.2.2.2.2.1),(.int .i64 x.2.2.2.1.2.2.2.2.2.1),(.bool x.2.2.2.1.2.2.2.2.2.2.1),(.int .i64 x.2.2.2.1.2.2.2.2.2.2.2)]),(.agg [1,1,1,1,1,1,1,1] [(.int .u8 x.2.2.2.2.1.1),(.int .i64 x.2.2.2.2.1.2.1),(.int .i64 x.2.2.2.2.1.2.2.1),(.int .i64 x.2.2.2.2.1.2.2.2.1),(.int .i64 x.2.2.2.2.1.2.2.2.2.1),(.int .i64 x.2.2.2.2.1.2.2.2.2.2.1),(.bool x.2.2.2.2.1.2.2.2.2.2.2.1),(.int .i64 x.2.2.2.2.1.2.2.2.2.2.2.2)]),(.int .u8 x.2.2.2.2.2.1),(.int .i64 x.2.2.2.2.2.2)])
noncomputable def BG:aG:=.cell true 102 (.agg [6,6,6] [(.agg [1,1,1,1,1,1] [(.fn 128 []),(.fn 129 []),(.aS 10 [] 1 0 1 (some 1)),(.int .i64 (-1)),(.int .i64 1),(.int .i64 0)]),(.agg [1,1,1,1,1,1] [(.fn 129 []),(.fn 130 []),(.aS 11 [] 1 0 1 (some 1)),(.int .i64 (-1)),(.int .i64 2),(.int .i64 0)]),(.agg [1,1,1,1,1,1] [(.fn 128 []),(.fn 131 []),(.aS 12 [] 1 0 1 (some 1)),(.int .i64 0),(.int .i64 1),(.int .i64 1)])])
noncomputable def BF:aG:=.cell true 102 (.agg [6,6,6] [(.agg [1,1,1,1,1,1] [(.fn 128 []),(.fn 129 []),(.aS 16 [] 1 0 1 (some 1)),(.int .i64 (-1)),(.int .i64 1),(.int .i64 0)]),(.agg [1,1,1,1,1,1] [(.fn 129 []),(.fn 130 []),(.aS 17 [] 1 0 1 (some 1)),(.int .i64 (-1)),(.int .i64 2),(.int .i64 0)]),(.agg [1,1,1,1,1,1] [(.fn 128 []),(.fn 132 []),(.aS 18 [] 1 0 1 (some 1)),(.int .i64 0),(.int .i64 1),(.int .i64 4)])])
noncomputable def BE:aG:=.cell true 102 (.agg [6,6,6] [(.agg [1,1,1,1,1,1] [(.fn 128 []),(.fn 129 []),(.aS 10 [] 1 0 1 (some 1)),(.int .i64 (-1)),(.int .i64 1),(.int .i64 0)]),(.agg [1,1,1,1,1,1] [(.fn 129 []),(.fn 130 []),(.aS 11 [] 1 0 1 (some 1)),(.int .i64 (-1)),(.int .i64 2),(.int .i64 0)]),(.agg [1,1,1,1,1,1] [(.fn 128 []),(.fn 132 []),(.aS 12 [] 1 0 1 (some 1)),(.int .i64 0),(.int .i64 1),(.int .i64 4)])])
noncomputable def BD:aG:=.cell true 102 (.agg [6,6,6] [(.agg [1,1,1,1,1,1] [(.fn 128 []),(.fn 129 []),(.aS 16 [] 1 0 1 (some 1)),(.int .i64 (-1)),(.int .i64 1),(.int .i64 0)]),(.agg [1,1,1,1,1,1] [(.fn 129 []),(.fn 130 []),(.aS 17 [] 1 0 1 (some 1)),(.int .i64 (-1)),(.int .i64 2),(.int .i64 0)]),(.agg [1,1,1,1,1,1] [(.fn 128 []),(.fn 131 []),(.aS 18 [] 1 0 1 (some 1)),(.int .i64 0),(.int .i64 1),(.int .i64 1)])])
noncomputable def BC:aG:=.cell true 99 (.agg [3,3,3] [(.agg [1,1,1] [(.aS 8 [] 1 0 1 (some 1)),(.int .u8 0),(.aS 9 [] 6 0 3 (some 3))]),(.agg [1,1,1] [(.aS 14 [] 1 0 2 (some 2)),(.int .u8 0),(.aS 15 [] 6 0 3 (some 3))]),(.agg [1,1,1] [(.aS 19 [] 1 0 1 (some 1)),(.int .u8 0),(.aS 20 [] 6 0 1 (some 1))])])
noncomputable def BB:aG:=.cell true 99 (.agg [3,3,3] [(.agg [1,1,1] [(.aS 14 [] 1 0 1 (some 1)),(.int .u8 0),(.aS 15 [] 6 0 3 (some 3))]),(.agg [1,1,1] [(.aS 8 [] 1 0 2 (some 2)),(.int .u8 0),(.aS 9 [] 6 0 3 (some 3))]),(.agg [1,1,1] [(.aS 19 [] 1 0 1 (some 1)),(.int .u8 0),(.aS 20 [] 6 0 1 (some 1))])])
noncomputable def Iq:aG:=.cell true 102 (.agg [6,6] [(.agg [1,1,1,1,1,1] [(.fn 135 []),(.fn 136 []),(.aS 10 [] 1 0 2 (some 2)),(.int .i64 (-1)),(.int .i64 2),(.int .i64 0)]),(.agg [1,1,1,1,1,1] [(.fn 130 []),(.fn 135 []),(.aS 11 [] 1 0 2 (some 2)),(.int .i64 (-1)),(.int .i64 1),(.int .i64 0)])])
noncomputable def Ip:aG:=.cell true 102 (.agg [6,6] [(.agg [1,1,1,1,1,1] [(.fn 128 []),(.fn 129 []),(.aS 10 [] 1 0 1 (some 1)),(.int .i64 (-1)),(.int .i64 1),(.int .i64 0)]),(.agg [1,1,1,1,1,1] [(.fn 128 []),(.fn 132 []),(.aS 11 [] 1 0 1 (some 1)),(.int .i64 0),(.int .i64 1),(.int .i64 4)])])
noncomputable def Io:aG:=.cell true 102 (.agg [6,6] [(.agg [1,1,1,1,1,1] [(.fn 153 []),(.fn 132 []),(.aS 10 [] 1 0 1 (some 1)),(.int .i64 0),(.int .i64 0),(.int .i64 4)]),(.agg [1,1,1,1,1,1] [(.fn 128 []),(.fn 153 []),(.aS 11 [] 1 0 1 (some 1)),(.int .i64 4),(.int .i64 1),(.int .i64 0)])])
noncomputable def bO:List It:=[.code (aH [1,0,0,1,1,0,0,1,1,0,0,1,1,1] (ah Tryz.f117)),.lp (aH [1,0,0,1,1,0,0,1,1,0,0] (ah Tryz.f117)),.bB 2,.bB 1,.code (aH [1,0,0,1,1,1] (ah Tryz.f117)),.lp (aH [1,0,0] (ah Tryz.f117)),.bB 0]
noncomputable def bN:aG:=.loop .ready none 44 ([.any,.any,(.ptr 1 []),(.ptr 2 []),(.ptr 3 [])]++List.replicate 48 .any) [47,48] (aH [1,1,1,0,1,0,0] (ah Tryz.f44)) (aH [1,1,1,0,1,0,1] (ah Tryz.f44)) 5
noncomputable def bM:List Fr:=[{id:=44,kind:=.top,T:=[.any,.any,(.ptr 1 []),(.ptr 2 []),(.ptr 3 [])]++List.replicate 48 .any,items:=[.fin 6,.bB 0,.code (aH [1,1,1,1] (ah Tryz.f44))],D:=[5],base:=0}]
noncomputable def mE:aG:=.cell true 102 (.agg [6] [(.agg [1,1,1,1,1,1] [(.fn 129 []),(.fn 168 []),(.aS 21 [] 1 0 1 (some 1)),(.int .i64 0),(.int .i64 3),(.int .i64 8)])])
noncomputable def bF:aG:=.cell true 102 (.agg [1,1,1,1,1,1] [(.raw .nilFunc),(.raw .nilFunc),(.raw (.slice none 0 0)),(.int .i64 0),(.int .i64 0),(.int .i64 0)])
noncomputable def rH:aG:=.cell true 99 (.agg [3] [(.agg [1,1,1] [(.aS 8 [] 1 0 2 (some 2)),(.int .u8 0),(.aS 9 [] 6 0 4 (some 4))])])
noncomputable def kT:aG:=.cell true 99 (.agg [3] [(.agg [1,1,1] [(.aS 8 [] 1 0 2 (some 2)),(.int .u8 0),(.aS 9 [] 6 0 1 (some 1))])])
noncomputable def mD:aG:=.cell true 99 (.agg [3] [(.agg [1,1,1] [(.aS 8 [] 1 0 2 (some 2)),(.int .u8 0),(.aS 9 [] 6 0 2 (some 2))])])
noncomputable def rG:aG:=.cell true 99 (.agg [1,1,1] [(.aS 8 [] 1 0 2 (some 2)),(.int .u8 0),(.aS 9 [] 6 0 4 (some 4))])
noncomputable def xe:aG:=.cell true 99 (.agg [1,1,1] [(.aS 8 [] 1 0 1 (some 1)),(.int .u8 0),(.aS 9 [] 6 0 3 (some 3))])
noncomputable def kR:aG:=.cell true 99 (.agg [1,1,1] [(.aS 8 [] 1 0 2 (some 2)),(.int .u8 0),(.aS 9 [] 6 0 1 (some 1))])
noncomputable def mC:aG:=.cell true 99 (.agg [1,1,1] [(.aS 8 [] 1 0 2 (some 2)),(.int .u8 0),(.aS 9 [] 6 0 2 (some 2))])
noncomputable def w9:aG:=.cell true 99 (.agg [1,1,1] [(.aS 8 [] 1 0 2 (some 2)),(.int .u8 0),(.aS 9 [] 6 0 3 (some 3))])
noncomputable def bE:aG:=.cell true 99 (.agg [1,1,1] [(.raw (.slice none 0 0)),(.int .u8 0),(.raw (.slice none 0 0))])
noncomputable def Uq (x:DI):nD→Head
 | .h0=>
 {fr:={id:=44,kind:=.top,T:=[.any,(.ptr 0 []),(.ptr 1 []),(.ptr 2 []),(.ptr 3 [])]++List.replicate 48 .any,items:=[.code (aH [1,1,1,0,0] (ah Tryz.f44)),.code (aH [1,1,1,0,1] (ah Tryz.f44)),.code (aH [1,1,1,1] (ah Tryz.f44))],D:=[],base:=0},
  aF:=[],
  H:=[(cg x),bE,bF,.cell true 4 (.bool false)]}
 | .h1 v43 v59 v65 v68 v69 v70 v71=>
 {fr:={id:=117,kind:=(.iter 6),T:=[(.jl 6),(.ptr 4 []),.any,.any,(.ptr 7 [])]++List.replicate 7 .any++[(.aS 14 [] 3 0 1 (some 1)),(.int .i64 1),(.int .i64 0)]++List.replicate 4 .any++[(.aS 9 [] 6 0 4 (some 4)),(.int .i64 4),(.int .i64 0)]++List.replicate 31 .any,items:=bO,D:=[],base:=7},
  aF:=bM,
  H:=[.dead,bE,bF,.cell true 4 (.bool false),(cg x),.my,bN,rG,.cell true 3 (.arr 2 (.int .i64) v43),.cell true 102 (.agg [6,6,6,6] [(.agg [1,1,1,1,1,1] [(.fn 128 []),(.fn 129 []),(.aS 10 [] 1 0 1 (some 1)),(.int .i64 (-1)),(.int .i64 1),(.int .i64 0)]),(.agg [1,1,1,1,1,1] [(.fn 129 []),(.fn 130 []),(.aS 11 [] 1 0 1 (some 1)),(.int .i64 (-1)),(.int .i64 2),(.int .i64 0)]),(.agg [1,1,1,1,1,1] [(.fn 128 []),(.fn 131 []),(.aS 12 [] 1 0 1 (some 1)),(.int .i64 v59),(.int .i64 1),(.int .i64 1)]),(.agg [1,1,1,1,1,1] [(.fn 128 []),(.fn 132 []),(.aS 13 [] 1 0 1 (some 1)),(.int .i64 v65),(.int .i64 1),(.int .i64 4)])]),.cell true 5 (.arr 1 (.int .u8) v68),.cell true 5 (.arr 1 (.int .u8) v69),.cell true 5 (.arr 1 (.int .u8) v70),.cell true 5 (.arr 1 (.int .u8) v71),rH]}
 | .h2 v43 v62 v63 v64 v86 v105 v106 v107 v108 v115=>
 {fr:={id:=117,kind:=(.iter 6),T:=[(.jl 6),(.ptr 4 []),.any,.any,(.ptr 7 [])]++List.replicate 7 .any++[(.aS 13 [] 3 0 3 (some 3)),(.int .i64 3),(.int .i64 0)]++List.replicate 4 .any++[(.aS 9 [] 6 0 3 (some 3)),(.int .i64 3),(.int .i64 0)]++List.replicate 31 .any,items:=bO,D:=[],base:=7},
  aF:=bM,
  H:=[.dead,bE,bF,.cell true 4 (.bool false),(cg x),.my,bN,xe,.cell true 3 (.arr 1 (.int .i64) v43),BG,.cell true 5 (.arr 1 (.int .u8) v62),.cell true 5 (.arr 1 (.int .u8) v63),.cell true 5 (.arr 1 (.int .u8) v64),BC,.cell true 3 (.arr 2 (.int .i64) v86),BF,.cell true 5 (.arr 1 (.int .u8) v105),.cell true 5 (.arr 1 (.int .u8) v106),.cell true 5 (.arr 1 (.int .u8) v107),.cell true 3 (.arr 1 (.int .i64) v108),mE,.cell true 5 (.arr 1 (.int .u8) v115)]}
 | .h3 v43 v50=>
 {fr:={id:=117,kind:=(.iter 6),T:=[(.jl 6),(.ptr 4 []),.any,.any,(.ptr 7 [])]++List.replicate 7 .any++[(.aS 11 [] 3 0 1 (some 1)),(.int .i64 1),(.int .i64 0)]++List.replicate 4 .any++[(.aS 9 [] 6 0 1 (some 1)),(.int .i64 1),(.int .i64 0)]++List.replicate 31 .any,items:=bO,D:=[],base:=7},
  aF:=bM,
  H:=[.dead,bE,bF,.cell true 4 (.bool false),(cg x),.my,bN,kR,.cell true 3 (.arr 2 (.int .i64) v43),.cell true 102 (.agg [6] [(.agg [1,1,1,1,1,1] [(.fn 129 []),(.fn 130 []),(.aS 10 [] 1 0 1 (some 1)),(.int .i64 (-1)),(.int .i64 2),(.int .i64 0)])]),.cell true 5 (.arr 1 (.int .u8) v50),kT]}
 | .h4 v43 v56 v57=>
 {fr:={id:=117,kind:=(.iter 6),T:=[(.jl 6),(.ptr 4 []),.any,.any,(.ptr 7 [])]++List.replicate 7 .any++[(.aS 12 [] 3 0 1 (some 1)),(.int .i64 1),(.int .i64 0)]++List.replicate 4 .any++[(.aS 9 [] 6 0 2 (some 2)),(.int .i64 2),(.int .i64 0)]++List.replicate 31 .any,items:=bO,D:=[],base:=7},
  aF:=bM,
  H:=[.dead,bE,bF,.cell true 4 (.bool false),(cg x),.my,bN,mC,.cell true 3 (.arr 2 (.int .i64) v43),Ip,.cell true 5 (.arr 1 (.int .u8) v56),.cell true 5 (.arr 1 (.int .u8) v57),mD]}
 | .h5 v43 v47 v50=>
 {fr:={id:=117,kind:=(.iter 6),T:=[(.jl 6),(.ptr 4 []),.any,.any,(.ptr 7 [])]++List.replicate 7 .any++[(.aS 11 [] 3 0 1 (some 1)),(.int .i64 1),(.int .i64 0)]++List.replicate 4 .any++[(.aS 9 [] 6 0 1 (some 1)),(.int .i64 1),(.int .i64 0)]++List.replicate 31 .any,items:=bO,D:=[],base:=7},
  aF:=bM,
  H:=[.dead,bE,bF,.cell true 4 (.bool false),(cg x),.my,bN,kR,.cell true 3 (.arr 2 (.int .i64) v43),.cell true 102 (.agg [6] [(.agg [1,1,1,1,1,1] [(.fn 128 []),(.fn 153 []),(.aS 10 [] 1 0 1 (some 1)),(.int .i64 v47),(.int .i64 1),(.int .i64 0)])]),.cell true 5 (.arr 1 (.int .u8) v50),kT]}
 | .h6 v43 v47 v53 v56 v57=>
 {fr:={id:=117,kind:=(.iter 6),T:=[(.jl 6),(.ptr 4 []),.any,.any,(.ptr 7 [])]++List.replicate 7 .any++[(.aS 12 [] 3 0 1 (some 1)),(.int .i64 1),(.int .i64 0)]++List.replicate 4 .any++[(.aS 9 [] 6 0 2 (some 2)),(.int .i64 2),(.int .i64 0)]++List.replicate 31 .any,items:=bO,D:=[],base:=7},
  aF:=bM,
  H:=[.dead,bE,bF,.cell true 4 (.bool false),(cg x),.my,bN,mC,.cell true 3 (.arr 2 (.int .i64) v43),.cell true 102 (.agg [6,6] [(.agg [1,1,1,1,1,1] [(.fn 128 []),(.fn 138 []),(.aS 10 [] 1 0 1 (some 1)),(.int .i64 v47),(.int .i64 1),(.int .i64 1)]),(.agg [1,1,1,1,1,1] [(.fn 128 []),(.fn 139 []),(.aS 11 [] 1 0 1 (some 1)),(.int .i64 v53),(.int .i64 1),(.int .i64 0)])]),.cell true 5 (.arr 1 (.int .u8) v56),.cell true 5 (.arr 1 (.int .u8) v57),mD]}
 | .h7 v43 v50=>
 {fr:={id:=117,kind:=(.iter 6),T:=[(.jl 6),(.ptr 4 []),.any,.any,(.ptr 7 [])]++List.replicate 7 .any++[(.aS 11 [] 3 0 1 (some 1)),(.int .i64 1),(.int .i64 0)]++List.replicate 4 .any++[(.aS 9 [] 6 0 1 (some 1)),(.int .i64 1),(.int .i64 0)]++List.replicate 31 .any,items:=bO,D:=[],base:=7},
  aF:=bM,
  H:=[.dead,bE,bF,.cell true 4 (.bool false),(cg x),.my,bN,kR,.cell true 3 (.arr 2 (.int .i64) v43),.cell true 102 (.agg [6] [(.agg [1,1,1,1,1,1] [(.fn 129 []),(.fn 128 []),(.aS 10 [] 1 0 2 (some 2)),(.int .i64 (-1)),(.int .i64 2),(.int .i64 0)])]),.cell true 5 (.arr 2 (.int .u8) v50),kT]}
 | .h8 v43 v50=>
 {fr:={id:=117,kind:=(.iter 6),T:=[(.jl 6),(.ptr 4 []),.any,.any,(.ptr 7 [])]++List.replicate 7 .any++[(.aS 11 [] 3 0 1 (some 1)),(.int .i64 1),(.int .i64 0)]++List.replicate 4 .any++[(.aS 9 [] 6 0 1 (some 1)),(.int .i64 1),(.int .i64 0)]++List.replicate 31 .any,items:=bO,D:=[],base:=7},
  aF:=bM,
  H:=[.dead,bE,bF,.cell true 4 (.bool false),(cg x),.my,bN,.cell true 99 (.agg [1,1,1] [(.aS 8 [] 1 0 1 (some 1)),(.int .u8 0),(.aS 9 [] 6 0 1 (some 1))]),.cell true 3 (.arr 1 (.int .i64) v43),.cell true 102 (.agg [6] [(.agg [1,1,1,1,1,1] [(.fn 128 []),(.fn 153 []),(.aS 10 [] 1 0 2 (some 2)),(.int .i64 0),(.int .i64 1),(.int .i64 0)])]),.cell true 5 (.arr 2 (.int .u8) v50),.cell true 99 (.agg [3] [(.agg [1,1,1] [(.aS 8 [] 1 0 1 (some 1)),(.int .u8 0),(.aS 9 [] 6 0 1 (some 1))])])]}
 | .h9 v43 v56 v57=>
 {fr:={id:=117,kind:=(.iter 6),T:=[(.jl 6),(.ptr 4 []),.any,.any,(.ptr 7 [])]++List.replicate 7 .any++[(.aS 12 [] 3 0 1 (some 1)),(.int .i64 1),(.int .i64 0)]++List.replicate 4 .any++[(.aS 9 [] 6 0 2 (some 2)),(.int .i64 2),(.int .i64 0)]++List.replicate 31 .any,items:=bO,D:=[],base:=7},
  aF:=bM,
  H:=[.dead,bE,bF,.cell true 4 (.bool false),(cg x),.my,bN,.cell true 99 (.agg [1,1,1] [(.aS 8 [] 1 0 1 (some 1)),(.int .u8 243),(.aS 9 [] 6 0 2 (some 2))]),.cell true 3 (.arr 1 (.int .i64) v43),Iq,.cell true 5 (.arr 2 (.int .u8) v56),.cell true 5 (.arr 2 (.int .u8) v57),.cell true 99 (.agg [3] [(.agg [1,1,1] [(.aS 8 [] 1 0 1 (some 1)),(.int .u8 243),(.aS 9 [] 6 0 2 (some 2))])])]}
 | .ED v43 v50=>
 {fr:={id:=117,kind:=(.iter 6),T:=[(.jl 6),(.ptr 4 []),.any,.any,(.ptr 7 [])]++List.replicate 7 .any++[(.aS 11 [] 3 0 1 (some 1)),(.int .i64 1),(.int .i64 0)]++List.replicate 4 .any++[(.aS 9 [] 6 0 1 (some 1)),(.int .i64 1),(.int .i64 0)]++List.replicate 31 .any,items:=bO,D:=[],base:=7},
  aF:=bM,
  H:=[.dead,bE,bF,.cell true 4 (.bool false),(cg x),.my,bN,.cell true 99 (.agg [1,1,1] [(.aS 8 [] 1 0 1 (some 1)),(.int .u8 102),(.aS 9 [] 6 0 1 (some 1))]),.cell true 3 (.arr 1 (.int .i64) v43),.cell true 102 (.agg [6] [(.agg [1,1,1,1,1,1] [(.fn 135 []),(.fn 136 []),(.aS 10 [] 1 0 2 (some 2)),(.int .i64 (-1)),(.int .i64 2),(.int .i64 0)])]),.cell true 5 (.arr 2 (.int .u8) v50),.cell true 99 (.agg [3] [(.agg [1,1,1] [(.aS 8 [] 1 0 1 (some 1)),(.int .u8 102),(.aS 9 [] 6 0 1 (some 1))])])]}
 | .BP v43 v49 v50=>
 {fr:={id:=117,kind:=(.iter 6),T:=[(.jl 6),(.ptr 4 []),.any,.any,(.ptr 7 [])]++List.replicate 7 .any++[(.aS 11 [] 3 0 1 (some 1)),(.int .i64 1),(.int .i64 0)]++List.replicate 4 .any++[(.aS 9 [] 6 0 1 (some 1)),(.int .i64 1),(.int .i64 0)]++List.replicate 31 .any,items:=bO,D:=[],base:=7},
  aF:=bM,
  H:=[.dead,bE,bF,.cell true 4 (.bool false),(cg x),.my,bN,.cell true 99 (.agg [1,1,1] [(.aS 8 [] 1 0 1 (some 1)),(.int .u8 102),(.aS 9 [] 6 0 1 (some 1))]),.cell true 3 (.arr 1 (.int .i64) v43),.cell true 102 (.agg [6] [(.agg [1,1,1,1,1,1] [(.fn 135 []),(.fn 136 []),(.aS 10 [] 1 0 3 (some 3)),(.int .i64 (-1)),(.int .i64 2),(.int .i64 v49)])]),.cell true 5 (.arr 3 (.int .u8) v50),.cell true 99 (.agg [3] [(.agg [1,1,1] [(.aS 8 [] 1 0 1 (some 1)),(.int .u8 102),(.aS 9 [] 6 0 1 (some 1))])])]}
 | .JV v43 v50=>
 {fr:={id:=117,kind:=(.iter 6),T:=[(.jl 6),(.ptr 4 []),.any,.any,(.ptr 7 [])]++List.replicate 7 .any++[(.aS 11 [] 3 0 1 (some 1)),(.int .i64 1),(.int .i64 0)]++List.replicate 4 .any++[(.aS 9 [] 6 0 1 (some 1)),(.int .i64 1),(.int .i64 0)]++List.replicate 31 .any,items:=bO,D:=[],base:=7},
  aF:=bM,
  H:=[.dead,bE,bF,.cell true 4 (.bool false),(cg x),.my,bN,kR,.cell true 3 (.arr 2 (.int .i64) v43),.cell true 102 (.agg [6] [(.agg [1,1,1,1,1,1] [(.fn 153 []),(.fn 132 []),(.aS 10 [] 1 0 1 (some 1)),(.int .i64 0),(.int .i64 0),(.int .i64 4)])]),.cell true 5 (.arr 1 (.int .u8) v50),kT]}
 | .QH v43 v56 v57=>
 {fr:={id:=117,kind:=(.iter 6),T:=[(.jl 6),(.ptr 4 []),.any,.any,(.ptr 7 [])]++List.replicate 7 .any++[(.aS 12 [] 3 0 1 (some 1)),(.int .i64 1),(.int .i64 0)]++List.replicate 4 .any++[(.aS 9 [] 6 0 2 (some 2)),(.int .i64 2),(.int .i64 0)]++List.replicate 31 .any,items:=bO,D:=[],base:=7},
  aF:=bM,
  H:=[.dead,bE,bF,.cell true 4 (.bool false),(cg x),.my,bN,mC,.cell true 3 (.arr 2 (.int .i64) v43),Io,.cell true 5 (.arr 1 (.int .u8) v56),.cell true 5 (.arr 1 (.int .u8) v57),mD]}
 | .Jr v43 v50=>
 {fr:={id:=117,kind:=(.iter 6),T:=[(.jl 6),(.ptr 4 []),.any,.any,(.ptr 7 [])]++List.replicate 7 .any++[(.aS 11 [] 3 0 1 (some 1)),(.int .i64 1),(.int .i64 0)]++List.replicate 4 .any++[(.aS 9 [] 6 0 1 (some 1)),(.int .i64 1),(.int .i64 0)]++List.replicate 31 .any,items:=bO,D:=[],base:=7},
  aF:=bM,
  H:=[.dead,bE,bF,.cell true 4 (.bool false),(cg x),.my,bN,kR,.cell true 3 (.arr 2 (.int .i64) v43),.cell true 102 (.agg [6] [(.agg [1,1,1,1,1,1] [(.fn 153 []),(.fn 132 []),(.aS 10 [] 1 0 2 (some 2)),(.int .i64 0),(.int .i64 0),(.int .i64 4)])]),.cell true 5 (.arr 2 (.int .u8) v50),kT]}
 | .DL v43 v50=>
 {fr:={id:=117,kind:=(.iter 6),T:=[(.jl 6),(.ptr 4 []),.any,.any,(.ptr 7 [])]++List.replicate 7 .any++[(.aS 11 [] 3 0 1 (some 1)),(.int .i64 1),(.int .i64 0)]++List.replicate 4 .any++[(.aS 9 [] 6 0 1 (some 1)),(.int .i64 1),(.int .i64 0)]++List.replicate 31 .any,items:=bO,D:=[],base:=7},
  aF:=bM,
  H:=[.dead,bE,bF,.cell true 4 (.bool false),(cg x),.my,bN,kR,.cell true 3 (.arr 2 (.int .i64) v43),.cell true 102 (.agg [6] [(.agg [1,1,1,1,1,1] [(.fn 153 []),(.fn 153 []),(.aS 10 [] 1 0 1 (some 1)),(.int .i64 0),(.int .i64 0),(.int .i64 0)])]),.cell true 5 (.arr 1 (.int .u8) v50),kT]}
 | .HQ v43 v50=>
 {fr:={id:=117,kind:=(.iter 6),T:=[(.jl 6),(.ptr 4 []),.any,.any,(.ptr 7 [])]++List.replicate 7 .any++[(.aS 11 [] 3 0 1 (some 1)),(.int .i64 1),(.int .i64 0)]++List.replicate 4 .any++[(.aS 9 [] 6 0 1 (some 1)),(.int .i64 1),(.int .i64 0)]++List.replicate 31 .any,items:=bO,D:=[],base:=7},
  aF:=bM,
  H:=[.dead,bE,bF,.cell true 4 (.bool false),(cg x),.my,bN,kR,.cell true 3 (.arr 2 (.int .i64) v43),.cell true 102 (.agg [6] [(.agg [1,1,1,1,1,1] [(.fn 129 []),(.fn 153 []),(.aS 10 [] 1 0 1 (some 1)),(.int .i64 0),(.int .i64 3),(.int .i64 0)])]),.cell true 5 (.arr 1 (.int .u8) v50),kT]}
 | .qY=>
 {fr:={id:=44,kind:=.top,T:=[.any,.any,(.ptr 1 []),(.ptr 2 []),(.ptr 3 [])]++List.replicate 48 .any,items:=[.code (aH [1,1,1,1,0] (ah Tryz.f44)),.code (aH [1,1,1,1,1] (ah Tryz.f44))],D:=[0],base:=0},
  aF:=[],
  H:=[.my,bE,bF,.cell true 4 (.bool false)]}
 | .QG v43 v59 v65 v68 v69 v70 v71=>
 {fr:={id:=117,kind:=(.iter 6),T:=[(.jl 6),(.ptr 4 []),.any,.any,(.ptr 7 [])]++List.replicate 7 .any++[(.aS 14 [] 3 0 1 (some 1)),(.int .i64 1),(.int .i64 0)]++List.replicate 4 .any++[(.aS 9 [] 6 0 4 (some 4)),(.int .i64 4),(.int .i64 1)]++List.replicate 31 .any,items:=bO,D:=[],base:=7},
  aF:=bM,
  H:=[.dead,bE,bF,.cell true 4 (.bool false),(cg x),.my,bN,rG,.cell true 3 (.arr 2 (.int .i64) v43),.cell true 102 (.agg [6,6,6,6] [(.agg [1,1,1,1,1,1] [(.fn 128 []),(.fn 129 []),(.aS 10 [] 1 0 1 (some 1)),(.int .i64 (-1)),(.int .i64 1),(.int .i64 0)]),(.agg [1,1,1,1,1,1] [(.fn 129 []),(.fn 130 []),(.aS 11 [] 1 0 1 (some 1)),(.int .i64 (-1)),(.int .i64 2),(.int .i64 0)]),(.agg [1,1,1,1,1,1] [(.fn 128 []),(.fn 131 []),(.aS 12 [] 1 0 1 (some 1)),(.int .i64 v59),(.int .i64 1),(.int .i64 1)]),(.agg [1,1,1,1,1,1] [(.fn 128 []),(.fn 132 []),(.aS 13 [] 1 0 1 (some 1)),(.int .i64 v65),(.int .i64 1),(.int .i64 4)])]),.cell true 5 (.arr 1 (.int .u8) v68),.cell true 5 (.arr 1 (.int .u8) v69),.cell true 5 (.arr 1 (.int .u8) v70),.cell true 5 (.arr 1 (.int .u8) v71),rH]}
 | .A9 v43 v62 v63 v64 v86 v105 v106 v107 v108 v115=>
 {fr:={id:=117,kind:=(.iter 6),T:=[(.jl 6),(.ptr 4 []),.any,.any,(.ptr 7 [])]++List.replicate 7 .any++[(.aS 13 [] 3 0 3 (some 3)),(.int .i64 3),(.int .i64 0)]++List.replicate 4 .any++[(.aS 9 [] 6 0 3 (some 3)),(.int .i64 3),(.int .i64 1)]++List.replicate 31 .any,items:=bO,D:=[],base:=7},
  aF:=bM,
  H:=[.dead,bE,bF,.cell true 4 (.bool false),(cg x),.my,bN,xe,.cell true 3 (.arr 1 (.int .i64) v43),BG,.cell true 5 (.arr 1 (.int .u8) v62),.cell true 5 (.arr 1 (.int .u8) v63),.cell true 5 (.arr 1 (.int .u8) v64),BC,.cell true 3 (.arr 2 (.int .i64) v86),BF,.cell true 5 (.arr 1 (.int .u8) v105),.cell true 5 (.arr 1 (.int .u8) v106),.cell true 5 (.arr 1 (.int .u8) v107),.cell true 3 (.arr 1 (.int .i64) v108),mE,.cell true 5 (.arr 1 (.int .u8) v115)]}
 | .NJ v43 v56 v57=>
 {fr:={id:=117,kind:=(.iter 6),T:=[(.jl 6),(.ptr 4 []),.any,.any,(.ptr 7 [])]++List.replicate 7 .any++[(.aS 12 [] 3 0 1 (some 1)),(.int .i64 1),(.int .i64 0)]++List.replicate 4 .any++[(.aS 9 [] 6 0 2 (some 2)),(.int .i64 2),(.int .i64 1)]++List.replicate 31 .any,items:=bO,D:=[],base:=7},
  aF:=bM,
  H:=[.dead,bE,bF,.cell true 4 (.bool false),(cg x),.my,bN,mC,.cell true 3 (.arr 2 (.int .i64) v43),Ip,.cell true 5 (.arr 1 (.int .u8) v56),.cell true 5 (.arr 1 (.int .u8) v57),mD]}
 | .QF v43 v47 v53 v56 v57=>
 {fr:={id:=117,kind:=(.iter 6),T:=[(.jl 6),(.ptr 4 []),.any,.any,(.ptr 7 [])]++List.replicate 7 .any++[(.aS 12 [] 3 0 1 (some 1)),(.int .i64 1),(.int .i64 0)]++List.replicate 4 .any++[(.aS 9 [] 6 0 2 (some 2)),(.int .i64 2),(.int .i64 1)]++List.replicate 31 .any,items:=bO,D:=[],base:=7},
  aF:=bM,
  H:=[.dead,bE,bF,.cell true 4 (.bool false),(cg x),.my,bN,mC,.cell true 3 (.arr 2 (.int .i64) v43),.cell true 102 (.agg [6,6] [(.agg [1,1,1,1,1,1] [(.fn 128 []),(.fn 138 []),(.aS 10 [] 1 0 1 (some 1)),(.int .i64 v47),(.int .i64 1),(.int .i64 1)]),(.agg [1,1,1,1,1,1] [(.fn 128 []),(.fn 139 []),(.aS 11 [] 1 0 1 (some 1)),(.int .i64 v53),(.int .i64 1),(.int .i64 0)])]),.cell true 5 (.arr 1 (.int .u8) v56),.cell true 5 (.arr 1 (.int .u8) v57),mD]}
 | .QE v43 v56 v57=>
 {fr:={id:=117,kind:=(.iter 6),T:=[(.jl 6),(.ptr 4 []),.any,.any,(.ptr 7 [])]++List.replicate 7 .any++[(.aS 12 [] 3 0 1 (some 1)),(.int .i64 1),(.int .i64 0)]++List.replicate 4 .any++[(.aS 9 [] 6 0 2 (some 2)),(.int .i64 2),(.int .i64 1)]++List.replicate 31 .any,items:=bO,D:=[],base:=7},
  aF:=bM,
  H:=[.dead,bE,bF,.cell true 4 (.bool false),(cg x),.my,bN,.cell true 99 (.agg [1,1,1] [(.aS 8 [] 1 0 1 (some 1)),(.int .u8 243),(.aS 9 [] 6 0 2 (some 2))]),.cell true 3 (.arr 1 (.int .i64) v43),Iq,.cell true 5 (.arr 2 (.int .u8) v56),.cell true 5 (.arr 2 (.int .u8) v57),.cell true 99 (.agg [3] [(.agg [1,1,1] [(.aS 8 [] 1 0 1 (some 1)),(.int .u8 243),(.aS 9 [] 6 0 2 (some 2))])])]}
 | .Jq v43 v56 v57=>
 {fr:={id:=117,kind:=(.iter 6),T:=[(.jl 6),(.ptr 4 []),.any,.any,(.ptr 7 [])]++List.replicate 7 .any++[(.aS 12 [] 3 0 1 (some 1)),(.int .i64 1),(.int .i64 0)]++List.replicate 4 .any++[(.aS 9 [] 6 0 2 (some 2)),(.int .i64 2),(.int .i64 1)]++List.replicate 31 .any,items:=bO,D:=[],base:=7},
  aF:=bM,
  H:=[.dead,bE,bF,.cell true 4 (.bool false),(cg x),.my,bN,mC,.cell true 3 (.arr 2 (.int .i64) v43),Io,.cell true 5 (.arr 1 (.int .u8) v56),.cell true 5 (.arr 1 (.int .u8) v57),mD]}
 | .QD v43 v59 v65 v68 v69 v70 v71=>
 {fr:={id:=117,kind:=(.iter 6),T:=[(.jl 6),(.ptr 4 []),.any,.any,(.ptr 7 [])]++List.replicate 7 .any++[(.aS 14 [] 3 0 1 (some 1)),(.int .i64 1),(.int .i64 0)]++List.replicate 4 .any++[(.aS 9 [] 6 0 4 (some 4)),(.int .i64 4),(.int .i64 2)]++List.replicate 31 .any,items:=bO,D:=[],base:=7},
  aF:=bM,
  H:=[.dead,bE,bF,.cell true 4 (.bool false),(cg x),.my,bN,rG,.cell true 3 (.arr 2 (.int .i64) v43),.cell true 102 (.agg [6,6,6,6] [(.agg [1,1,1,1,1,1] [(.fn 128 []),(.fn 129 []),(.aS 10 [] 1 0 1 (some 1)),(.int .i64 (-1)),(.int .i64 1),(.int .i64 0)]),(.agg [1,1,1,1,1,1] [(.fn 129 []),(.fn 130 []),(.aS 11 [] 1 0 1 (some 1)),(.int .i64 (-1)),(.int .i64 2),(.int .i64 0)]),(.agg [1,1,1,1,1,1] [(.fn 128 []),(.fn 131 []),(.aS 12 [] 1 0 1 (some 1)),(.int .i64 v59),(.int .i64 1),(.int .i64 1)]),(.agg [1,1,1,1,1,1] [(.fn 128 []),(.fn 132 []),(.aS 13 [] 1 0 1 (some 1)),(.int .i64 v65),(.int .i64 1),(.int .i64 4)])]),.cell true 5 (.arr 1 (.int .u8) v68),.cell true 5 (.arr 1 (.int .u8) v69),.cell true 5 (.arr 1 (.int .u8) v70),.cell true 5 (.arr 1 (.int .u8) v71),rH]}
 | .yx v43 v62 v63 v64 v86 v105 v106 v107 v108 v115=>
 {fr:={id:=117,kind:=(.iter 6),T:=[(.jl 6),(.ptr 4 []),.any,.any,(.ptr 7 [])]++List.replicate 7 .any++[(.aS 13 [] 3 0 3 (some 3)),(.int .i64 3),(.int .i64 0)]++List.replicate 4 .any++[(.aS 9 [] 6 0 3 (some 3)),(.int .i64 3),(.int .i64 2)]++List.replicate 31 .any,items:=bO,D:=[],base:=7},
  aF:=bM,
  H:=[.dead,bE,bF,.cell true 4 (.bool false),(cg x),.my,bN,xe,.cell true 3 (.arr 1 (.int .i64) v43),BG,.cell true 5 (.arr 1 (.int .u8) v62),.cell true 5 (.arr 1 (.int .u8) v63),.cell true 5 (.arr 1 (.int .u8) v64),BC,.cell true 3 (.arr 2 (.int .i64) v86),BF,.cell true 5 (.arr 1 (.int .u8) v105),.cell true 5 (.arr 1 (.int .u8) v106),.cell true 5 (.arr 1 (.int .u8) v107),.cell true 3 (.arr 1 (.int .i64) v108),mE,.cell true 5 (.arr 1 (.int .u8) v115)]}
 | .Pw v43 v59 v65 v68 v69 v70 v71=>
 {fr:={id:=117,kind:=(.iter 6),T:=[(.jl 6),(.ptr 4 []),.any,.any,(.ptr 7 [])]++List.replicate 7 .any++[(.aS 14 [] 3 0 1 (some 1)),(.int .i64 1),(.int .i64 0)]++List.replicate 4 .any++[(.aS 9 [] 6 0 4 (some 4)),(.int .i64 4),(.int .i64 3)]++List.replicate 31 .any,items:=bO,D:=[],base:=7},
  aF:=bM,
  H:=[.dead,bE,bF,.cell true 4 (.bool false),(cg x),.my,bN,rG,.cell true 3 (.arr 2 (.int .i64) v43),.cell true 102 (.agg [6,6,6,6] [(.agg [1,1,1,1,1,1] [(.fn 128 []),(.fn 129 []),(.aS 10 [] 1 0 1 (some 1)),(.int .i64 (-1)),(.int .i64 1),(.int .i64 0)]),(.agg [1,1,1,1,1,1] [(.fn 129 []),(.fn 130 []),(.aS 11 [] 1 0 1 (some 1)),(.int .i64 (-1)),(.int .i64 2),(.int .i64 0)]),(.agg [1,1,1,1,1,1] [(.fn 128 []),(.fn 131 []),(.aS 12 [] 1 0 1 (some 1)),(.int .i64 v59),(.int .i64 1),(.int .i64 1)]),(.agg [1,1,1,1,1,1] [(.fn 128 []),(.fn 132 []),(.aS 13 [] 1 0 1 (some 1)),(.int .i64 v65),(.int .i64 1),(.int .i64 4)])]),.cell true 5 (.arr 1 (.int .u8) v68),.cell true 5 (.arr 1 (.int .u8) v69),.cell true 5 (.arr 1 (.int .u8) v70),.cell true 5 (.arr 1 (.int .u8) v71),rH]}
 | .qh v43 v62 v63 v64 v86 v105 v106 v107 v108 v115=>
 {fr:={id:=117,kind:=(.iter 6),T:=[(.jl 6),(.ptr 4 []),.any,.any,(.ptr 7 [])]++List.replicate 7 .any++[(.aS 13 [] 3 0 3 (some 3)),(.int .i64 3),(.int .i64 1)]++List.replicate 4 .any++[(.aS 9 [] 6 0 3 (some 3)),(.int .i64 3),(.int .i64 0)]++List.replicate 31 .any,items:=bO,D:=[],base:=7},
  aF:=bM,
  H:=[.dead,bE,bF,.cell true 4 (.bool false),(cg x),.my,bN,w9,.cell true 3 (.arr 2 (.int .i64) v43),BE,.cell true 5 (.arr 1 (.int .u8) v62),.cell true 5 (.arr 1 (.int .u8) v63),.cell true 5 (.arr 1 (.int .u8) v64),BB,.cell true 3 (.arr 1 (.int .i64) v86),BD,.cell true 5 (.arr 1 (.int .u8) v105),.cell true 5 (.arr 1 (.int .u8) v106),.cell true 5 (.arr 1 (.int .u8) v107),.cell true 3 (.arr 1 (.int .i64) v108),mE,.cell true 5 (.arr 1 (.int .u8) v115)]}
 | .EC v43 v62 v63 v64 v86 v105 v106 v107 v108 v115=>
 {fr:={id:=117,kind:=(.iter 6),T:=[(.jl 6),(.ptr 4 []),.any,.any,(.ptr 7 [])]++List.replicate 7 .any++[(.aS 13 [] 3 0 3 (some 3)),(.int .i64 3),(.int .i64 1)]++List.replicate 4 .any++[(.aS 9 [] 6 0 3 (some 3)),(.int .i64 3),(.int .i64 1)]++List.replicate 31 .any,items:=bO,D:=[],base:=7},
  aF:=bM,
  H:=[.dead,bE,bF,.cell true 4 (.bool false),(cg x),.my,bN,w9,.cell true 3 (.arr 2 (.int .i64) v43),BE,.cell true 5 (.arr 1 (.int .u8) v62),.cell true 5 (.arr 1 (.int .u8) v63),.cell true 5 (.arr 1 (.int .u8) v64),BB,.cell true 3 (.arr 1 (.int .i64) v86),BD,.cell true 5 (.arr 1 (.int .u8) v105),.cell true 5 (.arr 1 (.int .u8) v106),.cell true 5 (.arr 1 (.int .u8) v107),.cell true 3 (.arr 1 (.int .i64) v108),mE,.cell true 5 (.arr 1 (.int .u8) v115)]}
 | .Jp v43 v62 v63 v64 v86 v105 v106 v107 v108 v115=>
 {fr:={id:=117,kind:=(.iter 6),T:=[(.jl 6),(.ptr 4 []),.any,.any,(.ptr 7 [])]++List.replicate 7 .any++[(.aS 13 [] 3 0 3 (some 3)),(.int .i64 3),(.int .i64 1)]++List.replicate 4 .any++[(.aS 9 [] 6 0 3 (some 3)),(.int .i64 3),(.int .i64 2)]++List.replicate 31 .any,items:=bO,D:=[],base:=7},
  aF:=bM,
  H:=[.dead,bE,bF,.cell true 4 (.bool false),(cg x),.my,bN,w9,.cell true 3 (.arr 2 (.int .i64) v43),BE,.cell true 5 (.arr 1 (.int .u8) v62),.cell true 5 (.arr 1 (.int .u8) v63),.cell true 5 (.arr 1 (.int .u8) v64),BB,.cell true 3 (.arr 1 (.int .i64) v86),BD,.cell true 5 (.arr 1 (.int .u8) v105),.cell true 5 (.arr 1 (.int .u8) v106),.cell true 5 (.arr 1 (.int .u8) v107),.cell true 3 (.arr 1 (.int .i64) v108),mE,.cell true 5 (.arr 1 (.int .u8) v115)]}
 | .QC v43 v50 v72 v91 v92 v93 v94 v113 v114 v115=>
 {fr:={id:=117,kind:=(.iter 6),T:=[(.jl 6),(.ptr 4 []),.any,.any,(.ptr 7 [])]++List.replicate 7 .any++[(.aS 11 [] 3 0 3 (some 3)),(.int .i64 3),(.int .i64 2)]++List.replicate 4 .any++[(.aS 9 [] 6 0 1 (some 1)),(.int .i64 1),(.int .i64 0)]++List.replicate 31 .any,items:=bO,D:=[],base:=7},
  aF:=bM,
  H:=[.dead,bE,bF,.cell true 4 (.bool false),(cg x),.my,bN,.cell true 99 (.agg [1,1,1] [(.aS 8 [] 1 0 1 (some 1)),(.int .u8 0),(.aS 9 [] 6 0 1 (some 1))]),.cell true 3 (.arr 1 (.int .i64) v43),.cell true 102 (.agg [6] [(.agg [1,1,1,1,1,1] [(.fn 129 []),(.fn 168 []),(.aS 10 [] 1 0 1 (some 1)),(.int .i64 0),(.int .i64 3),(.int .i64 8)])]),.cell true 5 (.arr 1 (.int .u8) v50),.cell true 99 (.agg [3,3,3] [(.agg [1,1,1] [(.aS 12 [] 1 0 1 (some 1)),(.int .u8 0),(.aS 13 [] 6 0 3 (some 3))]),(.agg [1,1,1] [(.aS 17 [] 1 0 2 (some 2)),(.int .u8 0),(.aS 18 [] 6 0 3 (some 3))]),(.agg [1,1,1] [(.aS 8 [] 1 0 1 (some 1)),(.int .u8 0),(.aS 9 [] 6 0 1 (some 1))])]),.cell true 3 (.arr 1 (.int .i64) v72),.cell true 102 (.agg [6,6,6] [(.agg [1,1,1,1,1,1] [(.fn 128 []),(.fn 129 []),(.aS 14 [] 1 0 1 (some 1)),(.int .i64 (-1)),(.int .i64 1),(.int .i64 0)]),(.agg [1,1,1,1,1,1] [(.fn 129 []),(.fn 130 []),(.aS 15 [] 1 0 1 (some 1)),(.int .i64 (-1)),(.int .i64 2),(.int .i64 0)]),(.agg [1,1,1,1,1,1] [(.fn 128 []),(.fn 131 []),(.aS 16 [] 1 0 1 (some 1)),(.int .i64 0),(.int .i64 1),(.int .i64 1)])]),.cell true 5 (.arr 1 (.int .u8) v91),.cell true 5 (.arr 1 (.int .u8) v92),.cell true 5 (.arr 1 (.int .u8) v93),.cell true 3 (.arr 2 (.int .i64) v94),.cell true 102 (.agg [6,6,6] [(.agg [1,1,1,1,1,1] [(.fn 128 []),(.fn 129 []),(.aS 19 [] 1 0 1 (some 1)),(.int .i64 (-1)),(.int .i64 1),(.int .i64 0)]),(.agg [1,1,1,1,1,1] [(.fn 129 []),(.fn 130 []),(.aS 20 [] 1 0 1 (some 1)),(.int .i64 (-1)),(.int .i64 2),(.int .i64 0)]),(.agg [1,1,1,1,1,1] [(.fn 128 []),(.fn 132 []),(.aS 21 [] 1 0 1 (some 1)),(.int .i64 0),(.int .i64 1),(.int .i64 4)])]),.cell true 5 (.arr 1 (.int .u8) v113),.cell true 5 (.arr 1 (.int .u8) v114),.cell true 5 (.arr 1 (.int .u8) v115)]}
noncomputable def Tn:FuncId→Nat→Nat→Option Cut
 | 44,9,0=>some {tmps:=[1,2,3,4],loops:=[],dead:=[],aF:=[]}
 | 117,15,7=>some {tmps:=[0,1,4,12,13,14,19,20,21],loops:=[(6,[2,3,4])],dead:=[0],aF:=[[2,3,4]]}
 | 44,17,0=>some {tmps:=[2,3,4],loops:=[],dead:=[],aF:=[]}
 | _,_,_=>none
noncomputable def NS (x):=dq (TC.gN (.st (.st (.slice (.int .i64)) (.st (.int .u8) (.a7 .a8))) (.st (.st .a8 (.st .a8 (.st (.slice (.int .u8)) (.st (.int .i64) (.st (.int .i64) (.a7 (.int .i64))))))) (.a7 .bool)))) (fc x) (va x)
def Mw (x):=∃ r,Ends (fc x) r (va x)
noncomputable def KJ:Spec:={dg:=(.a7 bw),bG:=(.st (.st (.slice (.int .i64)) (.st (.int .u8) (.a7 .a8))) (.st (.st .a8 (.st .a8 (.st (.slice (.int .u8)) (.st (.int .i64) (.st (.int .i64) (.a7 (.int .i64))))))) (.a7 .bool))),n:=3,pre:=Mw,f:=NS}
theorem ZM:au aT 44 KJ:=o7 Tryz.f44 [(119,GI),(126,GD),(128,GC),(129,GB),(130,An),(131,GA),(132,Gz),(135,Am),(136,Gy),(138,Gx),(139,Gw),(153,Gv),(168,qG)] ⟨XP,XL,XK,XJ,SI,XI,XH,SH,XG,XF,XE,XD,Hq,trivial⟩ va fc Uq Tn
end Go.aA.RV
end
section
namespace Go.aA.RV
open Go.Proofs Go.aA
noncomputable def EV (x:DI):Tr Bool:=
 .aa (Mw x)<|
 .ret (NS x).2.2
noncomputable def sB (x):=(EV x).val
def sW (x):=(EV x).ok
noncomputable def KZ:Spec:={dg:=(.a7 bw),bG:=.bool,n:=1,pre:=sW,f:=sB}
theorem Z1:au aT 25 KZ:=iO Tryz.f25 [(44,KJ)] ⟨ZM,trivial⟩ EV
noncomputable def EX (x:Int):Tr bl:=
 .ret (false,(x,0))
noncomputable def fZ (x):=(EX x).val
def dU (x):=(EX x).ok
noncomputable def gU:Spec:={dg:=(.a7 (.int .i64)),bG:=aj,n:=1,pre:=dU,f:=fZ}
theorem qP:au aT 12 gU:=iO Tryz.f12 [] trivial EX
noncomputable def u6 (x:pP):Tr bl:=
 .ite (bd x.1 (x.2.length:Int)) (
 .aa ((0:Int)≤x.1)<|
 .aa (x.1 < (x.2.length:Int))<|
 .ret (eX aj x.2 (x.1).toNat)) (
 .aa (dj 0)<|
 .ret (fg 0))
noncomputable def DT (x):=(u6 x).val
def CC (x):=(u6 x).ok
noncomputable def KG:Spec:={dg:=(.st (.int .i64) (.a7 (.ref (.slice aj)))),bG:=aj,n:=1,pre:=CC,f:=DT}
theorem ZK:au aT 79 KG:=iO Tryz.f79 [(9,gn)] ⟨xy,trivial⟩ u6
noncomputable def vm (x:(bq×(List bX×PE))):Tr eZ:=
 let y0:PE:=x.2.2
 let y1:xD:=y0.2
 let y2:pP:=y1.2
 let y3:(List bl):=y2.2
 let y4:pP:=(0,y3)
 .aa (CC y4)<|
 let y5:pP:=(1,y3)
 .aa (CC y5)<|
 let y6:pP:=(2,y3)
 .aa (CC y6)<|
 .aa ((0:Nat) < 1)<|
 .aa (((0:Nat)+1:Nat)≤1)<|
 let y7:aC:=x.2.1
 let y8:Nat:=y7.length
 .aa ((y8:Nat)=y8)<|
 let y9:Nat:=(y8+1)
 .aa (((y9:Nat) * 256:Nat)≤2 ^ 40)<|
 .aa ((y9:Nat)≤2 ^ 40)<|
 let y10:jm:=(0,(0,(0,(0,(0,(0,(false,0)))))))
 let y11:aC:=(y7++[(y0.1,(y1.1,(y2.1,((DT y4),((DT y5),((DT y6),(0,(0,(0,(y10,(y10,(0,0))))))))))))])
 .aa ((y9:Nat)=y11.length)<|
 let y12:dY:=x.1.2
 .aa ((x.1.1,(y12.1,((),y12.2.2)))=x.1)<|
 .ret (y11,())
noncomputable def fM (x):=(vm x).val
def dP (x):=(vm x).ok
noncomputable def jt:aN:={t:=72,lf:=2,te:=42,ce:=aP,st:=(.st bw (.st (.int .i64) (.st .a8 (.st (.int .u64) (.st aj (.st aj (.st aj (.a7 aj)))))))),arg:=(.st (.int .u8) (.st (.int .i64) (.st (.int .i64) (.a7 (.slice aj))))),bG:=.unit,n:=0,pos:=0,box:=false,pre:=dP,f:=fun x=>(fM x).1,g:=fun x=>(fM x).2}
theorem nr:aZ aT 28 jt:=dI Tryz.f28 [(79,KG)] ⟨ZK,trivial⟩ vm
inductive YM where
 | h0 (v3:Int) (v5:Int) (v6:Int)
noncomputable def u9 (x:YZ):Tr (YM⊕tE):=
 .ret (.inl (.h0 32 (x.2.1.length:Int) 0))
noncomputable def lR (x:YZ):YM→Tr (YM⊕tE)
 | .h0 v3 v5 v6=>
 .ite (bd v6 v5) (
 .aa ((0:Int)≤v6)<|
 let y0:=x.2.1
 let y1:Nat:=y0.length
 .aa (v6 < (y1:Int))<|
 .aa ((0:Nat) < y1)<|
 .aa (((v6).toNat:Nat) < y1)<|
 .ret (.inl (.h0 (imax v3 (aJ .i64 (eX aP y0 (v6).toNat).2.2.1 1)) v5 (aJ .i64 v6 1)))) (
 let y2:=x.2.1
 let y3:Nat:=y2.length
 .aa ((y3:Nat)=y3)<|
 let y4:=x.1.2
 let y5:bq:=(x.1.1,(y4.1,((),y4.2.2)))
 let y6:=x.2.2
 let y7:=y6.2
 let y8:tF:=(y5,(y2,(y6.1,(y7.1,(v3,y7.2)))))
 .aa (dP y8)<|
 .aa (dU v3)<|
 let y9:=(fM y8).1
 let y10:Nat:=y9.length
 .aa ((y10:Nat)=y10)<|
 .aa (y5=x.1)<|
 .ret (.inr (y9,(fZ v3))))
noncomputable def Up (x:YZ):YM→Head
 | .h0 v3 v5 v6=>
 {fr:={id:=45,kind:=.top,T:=[(.ptr 0 []),(.int .u8 x.2.2.1),(.int .i64 x.2.2.2.1),(.dA aj x.2.2.2.2)]++List.replicate 4 .any++[(.ptr 2 []),(.int .i64 v3)]++List.replicate 5 .any++[(.row 1 33 x.2.1.length),(.int .i64 v5),(.int .i64 v6)]++List.replicate 17 .any,items:=[.lp (aH [1,1,0,1,0,0] (ah Tryz.f45)),.bB 0,.code (aH [1,1,1] (ah Tryz.f45))],D:=[],base:=2},
  aF:=[],
  H:=[.cell true 72 (.agg [21,1,1,1,3,3,3,3] [(.agg [1,1,1,8,8,1,1] [(.int .u8 x.1.1.1),(.int .u8 x.1.1.2.1),(.int .i64 x.1.1.2.2.1),(.agg [1,1,1,1,1,1,1,1] [(.int .u8 x.1.1.2.2.2.1.1),(.int .i64 x.1.1.2.2.2.1.2.1),(.int .i64 x.1.1.2.2.2.1.2.2.1),(.int .i64 x.1.1.2.2.2.1.2.2.2.1),(.int .i64 x.1.1.2.2.2.1.2.2.2.2.1),(.int .i64 x.1.1.2.2.2.1.2.2.2.2.2.1),(.bool x.1.1.2.2.2.1.2.2.2.2.2.2.1),(.int .i64 x.1.1.2.2.2.1.2.2.2.2.2.2.2)]),(.agg [1,1,1,1,1,1,1,1] [(.int .u8 x.1.1.2.2.2.2.1.1),(.int .i64 x.1.1.2.2.2.2.1.2.1),(.int .i64 x.1.1.2.2.2.2.1.2.2.1),(.int .i64 x.1.1.2.2.2.2.1.2.2.2.1),(.int .i64 x.1.1.2.2.2.2.1.2.2.2.2.1),(.int .i64 x.1.1.2.2.2.2.1.2.2.2.2.2.1),(.bool x.1.1.2.2.2.2.1.2.2.2.2.2.2.1),(.int .i64 x.1.1.2.2.2.2.1.2.2.2.2.2.2.2)]),(.int .u8 x.1.1.2.2.2.2.2.1),(.int .i64 x.1.1.2.2.2.2.2.2)]),(.int .i64 x.1.2.1),(.row 1 33 x.2.1.length),(.int .u64 x.1.2.2.2.1),(.agg [1,1,1] [(.bool x.1.2.2.2.2.1.1),(.int .i64 x.1.2.2.2.2.1.2.1),(.int .u64 x.1.2.2.2.2.1.2.2)]),(.agg [1,1,1] [(.bool x.1.2.2.2.2.2.1.1),(.int .i64 x.1.2.2.2.2.2.1.2.1),(.int .u64 x.1.2.2.2.2.2.1.2.2)]),(.agg [1,1,1] [(.bool x.1.2.2.2.2.2.2.1.1),(.int .i64 x.1.2.2.2.2.2.2.1.2.1),(.int .u64 x.1.2.2.2.2.2.2.1.2.2)]),(.agg [1,1,1] [(.bool x.1.2.2.2.2.2.2.2.1),(.int .i64 x.1.2.2.2.2.2.2.2.2.1),(.int .u64 x.1.2.2.2.2.2.2.2.2.2)])]),.row 42 aP x.2.1,.cell true 40 (.agg [1,1,1] [(.bool false),(.int .i64 0),(.int .u64 0)])]}
noncomputable def Tm:FuncId→Nat→Nat→Option Cut
 | 45,0,2=>some {tmps:=[0,1,2,3,8,9,15,16,17],loops:=[],dead:=[],aF:=[]}
 | _,_,_=>none
noncomputable def aR (x):=dq ((([]:List bX),TC.gN aj)) (lR x) (u9 x)
def bC (x):=∃ r,Ends (lR x) r (u9 x)
noncomputable def eP:aN:={t:=72,lf:=2,te:=42,ce:=aP,st:=(.st bw (.st (.int .i64) (.st .a8 (.st (.int .u64) (.st aj (.st aj (.st aj (.a7 aj)))))))),arg:=(.st (.int .u8) (.st (.int .i64) (.a7 (.slice aj)))),bG:=aj,n:=1,pos:=0,box:=false,pre:=bC,f:=fun x=>(aR x).1,g:=fun x=>(aR x).2}
theorem gI:aZ aT 45 eP:=Zm Tryz.f45 [(12,gU)] ⟨qP,trivial⟩ u9 lR Up Tm [(28,jt)] ⟨nr,trivial⟩ true
noncomputable def u0 (x:Int):Tr Int:=
 .ite (ae x 0) (
 .ret 64) (
 .aa ((0:Int)≤58)<|
 let y0:Int:=(a9 .u64 (cX .u64 (av .u64 x (X6 .u64 x)) 285870213051353865) 58)
 .aa ((0:Int)≤y0)<|
 .aa ((y0:Int) < 64)<|
 let y1:Nat:=(y0).toNat
 .aa ((y1:Nat) < 64)<|
 .ret (af .i64 (eX (.int .u8) [0,1,56,2,57,49,28,3,61,58,42,50,38,29,17,4,62,47,59,36,45,43,51,22,53,39,33,30,24,18,12,5,63,55,48,27,60,41,37,16,46,35,44,21,52,32,23,11,54,26,40,15,34,20,31,10,25,14,19,9,13,8,7,6] y1)))
noncomputable def Ya (x):=(u0 x).val
def Md (x):=(u0 x).ok
noncomputable def Ku:Spec:={dg:=(.a7 (.int .u64)),bG:=(.int .i64),n:=1,pre:=Md,f:=Ya}
theorem Zy:au aT 96 Ku:=iO Tryz.f96 [] trivial u0
noncomputable def u7 (x:Int):Tr Int:=
 .aa (Md x)<|
 .ret (Ya x)
noncomputable def NR (x):=(u7 x).val
def vZ (x):=(u7 x).ok
noncomputable def KI:Spec:={dg:=(.a7 (.int .u64)),bG:=(.int .i64),n:=1,pre:=vZ,f:=NR}
theorem ZL:au aT 46 KI:=iO Tryz.f46 [(96,Ku)] ⟨Zy,trivial⟩ u7
noncomputable def vn (x:(bq×(List bX×DO))):Tr tE:=
 let y0:DO:=x.2.2
 .ite (cB y0.1 2) (
 .aa (dj 0)<|
 let y1:=x.2.1
 let y2:Nat:=y1.length
 .aa ((y2:Nat)=y2)<|
 let y3:=x.1.2
 let y4:=y3.2.2
 let y5:bq:=(x.1.1,(y3.1,((),y4)))
 .aa (y5=x.1)<|
 .ret (y1,(fg 0))) (
 let y6:=y0.2.2
 let y7:=y6.2
 let y8:=y7.2
 let y9:=y8.2
 let y10:Int:=(af .u64 y9.1)
 .aa (dj y10)<|
 .ite y9.2.1 (
 let y11:=y6.1
 let y12:=(bK 0 y11)
 .ite y12 (
 .aa (dU y11)<|
 .aa ((0:Nat) < 2)<|
 .aa ((1:Nat) < 2)<|
 let y13:=x.2.1
 let y14:Nat:=y13.length
 .aa ((y14:Nat)=y14)<|
 let y15:=x.1.2
 let y16:=y15.2.2
 let y17:bq:=(x.1.1,(y15.1,((),y16)))
 let y18:=(fg y10)
 let y19:=y18.2
 let y20:qD:=(y18.1,(y19.1,(aJ .u64 y19.2 y16.1)))
 let y21:=(fZ y11)
 let y22:iC:=(y17,(y13,(2,(8,[y20,y21]))))
 .aa (bC y22)<|
 let y23:=y7.1
 let y24:=(bK 0 y23)
 .ite y24 (
 .aa (dU y23)<|
 let y25:=y8.1
 let y26:=(bd 1 y25)
 .ite y26 (
 let y27:Int:=(af .u64 y25)
 .aa (vZ y27)<|
 let y28:Int:=(af .u64 (NR y27))
 .aa (dj y28)<|
 .aa ((0:Nat) < 2)<|
 .aa ((1:Nat) < 2)<|
 let y29:=(aR y22).1
 let y30:Nat:=y29.length
 .aa ((y30:Nat)=y30)<|
 let y31:=(fZ y23)
 let y32:xD:=(11,(8,[y31,(fg y28)]))
 let y33:iC:=(y17,(y29,y32))
 .aa (bC y33)<|
 .aa ((0:Nat) < 2)<|
 .aa ((1:Nat) < 2)<|
 let y34:=(aR y33).1
 let y35:Nat:=y34.length
 .aa ((y35:Nat)=y35)<|
 .aa (((0:Nat)+2:Nat)≤2)<|
 let y36:=(aR y22).2
 let y37:iC:=(y17,(y34,(2,(8,[y36,(aR y33).2]))))
 .aa (bC y37)<|
 let y38:=(aR y37).1
 let y39:Nat:=y38.length
 .aa ((y39:Nat)=y39)<|
 .aa (y17=x.1)<|
 .ret (y38,(aR y37).2)) (
 .aa ((0:Nat) < 2)<|
 .aa ((1:Nat) < 2)<|
 let y40:=(aR y22).1
 let y41:Nat:=y40.length
 .aa ((y41:Nat)=y41)<|
 .aa (((0:Nat)+2:Nat)≤2)<|
 let y42:=(aR y22).2
 let y43:=(fZ y23)
 let y44:iC:=(y17,(y40,(2,(8,[y42,y43]))))
 .aa (bC y44)<|
 let y45:=(aR y44).1
 let y46:Nat:=y45.length
 .aa ((y46:Nat)=y46)<|
 .aa (y17=x.1)<|
 .ret (y45,(aR y44).2))) (
 let y47:=(aR y22).1
 let y48:Nat:=y47.length
 .aa ((y48:Nat)=y48)<|
 .aa (y17=x.1)<|
 let y49:=(aR y22).2
 .ret (y47,y49))) (
 let y50:=y7.1
 let y51:=(bK 0 y50)
 .ite y51 (
 .aa (dU y50)<|
 let y52:=y8.1
 let y53:=(bd 1 y52)
 .ite y53 (
 let y54:Int:=(af .u64 y52)
 .aa (vZ y54)<|
 let y55:Int:=(af .u64 (NR y54))
 .aa (dj y55)<|
 .aa ((0:Nat) < 2)<|
 .aa ((1:Nat) < 2)<|
 let y56:=x.2.1
 let y57:Nat:=y56.length
 .aa ((y57:Nat)=y57)<|
 let y58:=x.1.2
 let y59:=y58.2.2
 let y60:bq:=(x.1.1,(y58.1,((),y59)))
 let y61:=(fZ y50)
 let y62:xD:=(11,(8,[y61,(fg y55)]))
 let y63:iC:=(y60,(y56,y62))
 .aa (bC y63)<|
 .aa ((0:Nat) < 2)<|
 .aa ((1:Nat) < 2)<|
 let y64:=(aR y63).1
 let y65:Nat:=y64.length
 .aa ((y65:Nat)=y65)<|
 .aa (((0:Nat)+2:Nat)≤2)<|
 let y66:=(fg y10)
 let y67:=y66.2
 let y68:qD:=(y66.1,(y67.1,(aJ .u64 y67.2 y59.1)))
 let y69:=(aR y63).2
 let y70:iC:=(y60,(y64,(2,(8,[y68,y69]))))
 .aa (bC y70)<|
 let y71:=(aR y70).1
 let y72:Nat:=y71.length
 .aa ((y72:Nat)=y72)<|
 .aa (y60=x.1)<|
 .ret (y71,(aR y70).2)) (
 .aa ((0:Nat) < 2)<|
 .aa ((1:Nat) < 2)<|
 let y73:=x.2.1
 let y74:Nat:=y73.length
 .aa ((y74:Nat)=y74)<|
 .aa (((0:Nat)+2:Nat)≤2)<|
 let y75:=x.1.2
 let y76:=y75.2.2
 let y77:bq:=(x.1.1,(y75.1,((),y76)))
 let y78:=(fg y10)
 let y79:=y78.2
 let y80:qD:=(y78.1,(y79.1,(aJ .u64 y79.2 y76.1)))
 let y81:=(fZ y50)
 let y82:iC:=(y77,(y73,(2,(8,[y80,y81]))))
 .aa (bC y82)<|
 let y83:=(aR y82).1
 let y84:Nat:=y83.length
 .aa ((y84:Nat)=y84)<|
 .aa (y77=x.1)<|
 .ret (y83,(aR y82).2))) (
 let y85:=x.2.1
 let y86:Nat:=y85.length
 .aa ((y86:Nat)=y86)<|
 let y87:=x.1.2
 let y88:=y87.2.2
 let y89:bq:=(x.1.1,(y87.1,((),y88)))
 .aa (y89=x.1)<|
 let y90:=(fg y10)
 let y91:=y90.2
 let y92:qD:=(y90.1,(y91.1,(aJ .u64 y91.2 y88.1)))
 .ret (y85,y92)))) (
 let y93:=y6.1
 let y94:=(bK 0 y93)
 .ite y94 (
 .aa (dU y93)<|
 .aa ((0:Nat) < 2)<|
 .aa ((1:Nat) < 2)<|
 let y95:=x.2.1
 let y96:Nat:=y95.length
 .aa ((y96:Nat)=y96)<|
 let y97:=x.1.2
 let y98:=y97.2.2
 let y99:bq:=(x.1.1,(y97.1,((),y98)))
 let y100:=(fg y10)
 let y101:=(fZ y93)
 let y102:iC:=(y99,(y95,(2,(8,[y100,y101]))))
 .aa (bC y102)<|
 let y103:=y7.1
 let y104:=(bK 0 y103)
 .ite y104 (
 .aa (dU y103)<|
 let y105:=y8.1
 let y106:=(bd 1 y105)
 .ite y106 (
 let y107:Int:=(af .u64 y105)
 .aa (vZ y107)<|
 let y108:Int:=(af .u64 (NR y107))
 .aa (dj y108)<|
 .aa ((0:Nat) < 2)<|
 .aa ((1:Nat) < 2)<|
 let y109:=(aR y102).1
 let y110:Nat:=y109.length
 .aa ((y110:Nat)=y110)<|
 let y111:=(fZ y103)
 let y112:xD:=(11,(8,[y111,(fg y108)]))
 let y113:iC:=(y99,(y109,y112))
 .aa (bC y113)<|
 .aa ((0:Nat) < 2)<|
 .aa ((1:Nat) < 2)<|
 let y114:=(aR y113).1
 let y115:Nat:=y114.length
 .aa ((y115:Nat)=y115)<|
 .aa (((0:Nat)+2:Nat)≤2)<|
 let y116:=(aR y102).2
 let y117:iC:=(y99,(y114,(2,(8,[y116,(aR y113).2]))))
 .aa (bC y117)<|
 let y118:=(aR y117).1
 let y119:Nat:=y118.length
 .aa ((y119:Nat)=y119)<|
 .aa (y99=x.1)<|
 .ret (y118,(aR y117).2)) (
 .aa ((0:Nat) < 2)<|
 .aa ((1:Nat) < 2)<|
 let y120:=(aR y102).1
 let y121:Nat:=y120.length
 .aa ((y121:Nat)=y121)<|
 .aa (((0:Nat)+2:Nat)≤2)<|
 let y122:=(aR y102).2
 let y123:=(fZ y103)
 let y124:iC:=(y99,(y120,(2,(8,[y122,y123]))))
 .aa (bC y124)<|
 let y125:=(aR y124).1
 let y126:Nat:=y125.length
 .aa ((y126:Nat)=y126)<|
 .aa (y99=x.1)<|
 .ret (y125,(aR y124).2))) (
 let y127:=(aR y102).1
 let y128:Nat:=y127.length
 .aa ((y128:Nat)=y128)<|
 .aa (y99=x.1)<|
 let y129:=(aR y102).2
 .ret (y127,y129))) (
 let y130:=y7.1
 let y131:=(bK 0 y130)
 .ite y131 (
 .aa (dU y130)<|
 let y132:=y8.1
 let y133:=(bd 1 y132)
 .ite y133 (
 let y134:Int:=(af .u64 y132)
 .aa (vZ y134)<|
 let y135:Int:=(af .u64 (NR y134))
 .aa (dj y135)<|
 .aa ((0:Nat) < 2)<|
 .aa ((1:Nat) < 2)<|
 let y136:=x.2.1
 let y137:Nat:=y136.length
 .aa ((y137:Nat)=y137)<|
 let y138:=x.1.2
 let y139:=y138.2.2
 let y140:bq:=(x.1.1,(y138.1,((),y139)))
 let y141:=(fZ y130)
 let y142:xD:=(11,(8,[y141,(fg y135)]))
 let y143:iC:=(y140,(y136,y142))
 .aa (bC y143)<|
 .aa ((0:Nat) < 2)<|
 .aa ((1:Nat) < 2)<|
 let y144:=(aR y143).1
 let y145:Nat:=y144.length
 .aa ((y145:Nat)=y145)<|
 .aa (((0:Nat)+2:Nat)≤2)<|
 let y146:=(fg y10)
 let y147:=(aR y143).2
 let y148:iC:=(y140,(y144,(2,(8,[y146,y147]))))
 .aa (bC y148)<|
 let y149:=(aR y148).1
 let y150:Nat:=y149.length
 .aa ((y150:Nat)=y150)<|
 .aa (y140=x.1)<|
 .ret (y149,(aR y148).2)) (
 .aa ((0:Nat) < 2)<|
 .aa ((1:Nat) < 2)<|
 let y151:=x.2.1
 let y152:Nat:=y151.length
 .aa ((y152:Nat)=y152)<|
 .aa (((0:Nat)+2:Nat)≤2)<|
 let y153:=x.1.2
 let y154:=y153.2.2
 let y155:bq:=(x.1.1,(y153.1,((),y154)))
 let y156:=(fg y10)
 let y157:=(fZ y130)
 let y158:iC:=(y155,(y151,(2,(8,[y156,y157]))))
 .aa (bC y158)<|
 let y159:=(aR y158).1
 let y160:Nat:=y159.length
 .aa ((y160:Nat)=y160)<|
 .aa (y155=x.1)<|
 .ret (y159,(aR y158).2))) (
 let y161:=x.2.1
 let y162:Nat:=y161.length
 .aa ((y162:Nat)=y162)<|
 let y163:=x.1.2
 let y164:=y163.2.2
 let y165:bq:=(x.1.1,(y163.1,((),y164)))
 .aa (y165=x.1)<|
 let y166:=(fg y10)
 .ret (y161,y166)))))
noncomputable def hU (x):=(vn x).val
def Hf (x):=(vn x).ok
noncomputable def Mc:aN:={t:=72,lf:=2,te:=42,ce:=aP,st:=(.st bw (.st (.int .i64) (.st .a8 (.st (.int .u64) (.st aj (.st aj (.st aj (.a7 aj)))))))),arg:=(.a7 CO),bG:=aj,n:=1,pos:=0,box:=false,pre:=Hf,f:=fun x=>(hU x).1,g:=fun x=>(hU x).2}
theorem Xq:aZ aT 26 Mc:=dI Tryz.f26 [(9,gn),(12,gU),(46,KI)] ⟨xy,qP,ZL,trivial⟩ vn [(45,eP)] ⟨gI,trivial⟩ true
noncomputable def ue (x:(bq×(List bX×(DO×(bl×(Int×bl)))))):Tr eZ:=
 let y0:(DO×(bl×(Int×bl))):=x.2.2
 let y1:DO:=y0.1
 .ite (ae y1.1 2) (
 .aa ((0:Nat) < 2)<|
 .aa ((1:Nat) < 2)<|
 let y2:=x.2.1
 let y3:Nat:=y2.length
 .aa ((y3:Nat)=y3)<|
 .aa (((0:Nat)+2:Nat)≤2)<|
 let y4:=x.1.2
 let y5:bq:=(x.1.1,(y4.1,((),y4.2.2)))
 let y6:=y0.2
 let y7:=y6.2
 let y8:=y7.1
 let y9:=y7.2
 let y10:tF:=(y5,(y2,(28,(y8,(0,[y6.1,y9])))))
 .aa (dP y10)<|
 let y11:=(fM y10).1
 let y12:Nat:=y11.length
 .aa ((y12:Nat)=y12)<|
 .aa (y5=x.1)<|
 .ret (y11,())) (
 let y13:=y0.2
 let y14:=y13.2
 let y15:=y14.1
 .ite (ae y15 1) (
 let y16:=y1.2.1
 .aa (dU y16)<|
 .aa (dj 18446744073709551360)<|
 .aa ((0:Nat) < 2)<|
 .aa ((1:Nat) < 2)<|
 let y17:=x.2.1
 let y18:Nat:=y17.length
 .aa ((y18:Nat)=y18)<|
 .aa (((0:Nat)+2:Nat)≤2)<|
 let y19:=x.1.2
 let y20:bq:=(x.1.1,(y19.1,((),y19.2.2)))
 let y21:iC:=(y20,(y17,(8,(8,[(fZ y16),(fg 18446744073709551360)]))))
 .aa (bC y21)<|
 .aa ((0:Nat) < 1)<|
 let y22:=(aR y21).1
 let y23:Nat:=y22.length
 .aa ((y23:Nat)=y23)<|
 let y24:=y14.2
 let y25:(List bl):=[y24]
 let y26:iC:=(y20,(y22,(1,(1,y25))))
 .aa (bC y26)<|
 .aa ((0:Nat) < 2)<|
 .aa ((1:Nat) < 2)<|
 let y27:=(aR y26).1
 let y28:Nat:=y27.length
 .aa ((y28:Nat)=y28)<|
 let y29:tF:=(y20,(y27,(9,(8,(y16,[(aR y21).2,(aR y26).2])))))
 .aa (dP y29)<|
 let y30:=(fM y29).1
 let y31:Nat:=y30.length
 .aa ((y31:Nat)=y31)<|
 .aa (y20=x.1)<|
 .ret (y30,())) (
 .aa ((0:Nat) < 1)<|
 let y32:=x.2.1
 let y33:Nat:=y32.length
 .aa ((y33:Nat)=y33)<|
 .aa (((0:Nat)+1:Nat)≤1)<|
 let y34:=x.1.2
 let y35:bq:=(x.1.1,(y34.1,((),y34.2.2)))
 let y36:=y1.2.1
 let y37:=y14.2
 let y38:(List bl):=[y37]
 let y39:tF:=(y35,(y32,(1,(y15,(y36,y38)))))
 .aa (dP y39)<|
 let y40:=(fM y39).1
 let y41:Nat:=y40.length
 .aa ((y41:Nat)=y41)<|
 .aa (y35=x.1)<|
 .ret (y40,())))
noncomputable def H4 (x):=(ue x).val
def Ft (x):=(ue x).ok
noncomputable def AA:aN:={t:=72,lf:=2,te:=42,ce:=aP,st:=(.st bw (.st (.int .i64) (.st .a8 (.st (.int .u64) (.st aj (.st aj (.st aj (.a7 aj)))))))),arg:=(.st CO (.st aj (.st (.int .i64) (.a7 aj)))),bG:=.unit,n:=0,pos:=0,box:=false,pre:=Ft,f:=fun x=>(H4 x).1,g:=fun x=>(H4 x).2}
theorem MV:aZ aT 110 AA:=dI Tryz.f110 [(9,gn),(12,gU)] ⟨xy,qP,trivial⟩ ue [(28,jt),(45,eP)] ⟨nr,gI,trivial⟩ true
noncomputable def ze (x:Kn):Tr eZ:=
 let y0:aC:=x.2.1
 let y1:Nat:=y0.length
 .aa ((y1:Nat)=y1)<|
 let y2:DI:=x.1.1
 let y3:dY:=x.1.2
 let y4:Int:=y3.1
 let y5:o6:=y3.2.2
 let y6:bq:=(y2,(y4,((),y5)))
 let y7:tY6:=(y6,(y0,(y2.2.2.2.1,(y5.2.1,(y4,x.2.2)))))
 .aa (Ft y7)<|
 let y8:aC:=(H4 y7).1
 let y9:Nat:=y8.length
 .aa ((y9:Nat)=y9)<|
 .aa (y6=x.1)<|
 .ret (y8,())
noncomputable def kL (x):=(ze x).val
def ke (x):=(ze x).ok
noncomputable def jr:aN:={t:=72,lf:=2,te:=42,ce:=aP,st:=(.st bw (.st (.int .i64) (.st .a8 (.st (.int .u64) (.st aj (.st aj (.st aj (.a7 aj)))))))),arg:=(.a7 aj),bG:=.unit,n:=0,pos:=0,box:=false,pre:=ke,f:=fun x=>(kL x).1,g:=fun x=>(kL x).2}
theorem nq:aZ aT 97 jr:=dI Tryz.f97 [] trivial ze [(110,AA)] ⟨MV,trivial⟩ true
noncomputable def z8 (x:Int):Tr Int:=
 .ret (xN (imax x 1) 8)
noncomputable def yB (x):=(z8 x).val
def Fo (x):=(z8 x).ok
noncomputable def GG:Spec:={dg:=(.a7 (.int .i64)),bG:=(.int .i64),n:=1,pre:=Fo,f:=yB}
theorem XN:au aT 121 GG:=iO Tryz.f121 [] trivial z8
noncomputable def qB (x:Int):Tr Int:=
 .aa (Fo x)<|
 .aa ((0:Int)≤(yB x))<|
 .aa (((yB x):Int) < 9)<|
 let y0:Nat:=((yB x)).toNat
 .aa ((y0:Nat) < 9)<|
 .ret (eX (.int .u64) CX y0)
noncomputable def Ob (x):=(qB x).val
def AR (x):=(qB x).ok
noncomputable def Ap:Spec:={dg:=(.a7 (.int .i64)),bG:=(.int .u64),n:=1,pre:=AR,f:=Ob}
theorem SK:au aT 103 Ap:=iO Tryz.f103 [(121,GG)] ⟨XN,trivial⟩ qB
noncomputable def qA (x:bt):Tr Int:=
 .aa (AR x.2)<|
 .ret (av .u64 x.1 (Ob x.2))
noncomputable def SW (x):=(qA x).val
def Fp (x):=(qA x).ok
noncomputable def GH:Spec:={dg:=(.st (.int .u64) (.a7 (.int .i64))),bG:=(.int .u64),n:=1,pre:=Fp,f:=SW}
theorem XO:au aT 120 GH:=iO Tryz.f120 [(103,Ap)] ⟨SK,trivial⟩ qA
noncomputable def zd (x:(bq×(List bX×(DO×(bl×Int))))):Tr tE:=
 let y0:(DO×(bl×Int)):=x.2.2
 let y1:DO:=y0.1
 let y2:Int:=y1.1
 .ite (ae y2 1) (
 let y3:=y1.2
 let y4:=y3.1
 .aa (dU y4)<|
 let y5:=x.2.1
 let y6:Nat:=y5.length
 .aa ((y6:Nat)=y6)<|
 let y7:=x.1.2
 let y8:bq:=(x.1.1,(y7.1,((),y7.2.2)))
 .aa (y8=x.1)<|
 .ret (y5,(fZ y4))) (
 .ite (ae y2 2) (
 .aa ((0:Nat) < 1)<|
 let y9:=x.2.1
 let y10:Nat:=y9.length
 .aa ((y10:Nat)=y10)<|
 .aa (((0:Nat)+1:Nat)≤1)<|
 let y11:=x.1.2
 let y12:bq:=(x.1.1,(y11.1,((),y11.2.2)))
 let y13:=y0.2
 let y14:=y13.2
 let y15:iC:=(y12,(y9,(27,(y14,[y13.1]))))
 .aa (bC y15)<|
 let y16:=(aR y15).1
 let y17:Nat:=y16.length
 .aa ((y17:Nat)=y17)<|
 .aa (y12=x.1)<|
 .ret (y16,(aR y15).2)) (
 let y18:=y1.2
 let y19:=y0.2
 let y20:=y19.2
 let y21:bt:=((af .u64 y18.2.2.2.2.2.2),y20)
 .aa (Fp y21)<|
 let y22:=(SW y21)
 .aa (dj y22)<|
 let y23:=x.2.1
 let y24:Nat:=y23.length
 .aa ((y24:Nat)=y24)<|
 let y25:=x.1.2
 let y26:bq:=(x.1.1,(y25.1,((),y25.2.2)))
 .aa (y26=x.1)<|
 .ret (y23,(fg y22))))
noncomputable def fY (x):=(zd x).val
def j9 (x):=(zd x).ok
noncomputable def iM:aN:={t:=72,lf:=2,te:=42,ce:=aP,st:=(.st bw (.st (.int .i64) (.st .a8 (.st (.int .u64) (.st aj (.st aj (.st aj (.a7 aj)))))))),arg:=(.st CO (.st aj (.a7 (.int .i64)))),bG:=aj,n:=1,pos:=0,box:=false,pre:=j9,f:=fun x=>(fY x).1,g:=fun x=>(fY x).2}
theorem mc:aZ aT 98 iM:=dI Tryz.f98 [(9,gn),(12,gU),(120,GH)] ⟨xy,qP,XO,trivial⟩ zd [(45,eP)] ⟨gI,trivial⟩ true
noncomputable def zU (x:gG):Tr eZ:=
 let y0:aC:=x.2.1
 let y1:Nat:=y0.length
 .aa ((y1:Nat)=y1)<|
 let y2:DI:=x.1.1
 let y3:dY:=x.1.2
 let y4:Int:=y3.1
 let y5:o6:=y3.2.2
 let y6:bq:=(y2,(y4,((),y5)))
 let y7:pQ:=(y6,(y0,(y2.2.2.2.2.1,(y5.2.2.1,y4))))
 .aa (j9 y7)<|
 let y8:aC:=(fY y7).1
 let y9:Nat:=y8.length
 .aa ((y9:Nat)=y9)<|
 let y10:gm:=(y6,(y8,(fY y7).2))
 .aa (ke y10)<|
 let y11:aC:=(kL y10).1
 let y12:Nat:=y11.length
 .aa ((y12:Nat)=y12)<|
 .aa (y6=x.1)<|
 .ret (y11,())
noncomputable def Vi (x):=(zU x).val
def SF (x):=(zU x).ok
noncomputable def Mb:aN:={t:=72,lf:=2,te:=42,ce:=aP,st:=(.st bw (.st (.int .i64) (.st .a8 (.st (.int .u64) (.st aj (.st aj (.st aj (.a7 aj)))))))),arg:=.unit,bG:=.unit,n:=0,pos:=0,box:=false,pre:=SF,f:=fun x=>(Vi x).1,g:=fun x=>(Vi x).2}
theorem Xp:aZ aT 47 Mb:=dI Tryz.f47 [] trivial zU [(97,jr),(98,iM)] ⟨nq,mc,trivial⟩ true
noncomputable def zT (x:gG):Tr eZ:=
 let y0:aC:=x.2.1
 let y1:Nat:=y0.length
 .aa ((y1:Nat)=y1)<|
 let y2:dY:=x.1.2
 let y3:o6:=y2.2.2
 let y4:bq:=(x.1.1,(y2.1,((),y3)))
 let y5:gm:=(y4,(y0,y3.2.2.1))
 .aa (ke y5)<|
 let y6:aC:=(kL y5).1
 let y7:Nat:=y6.length
 .aa ((y7:Nat)=y7)<|
 .aa (y4=x.1)<|
 .ret (y6,())
noncomputable def Vh (x):=(zT x).val
def SE (x):=(zT x).ok
noncomputable def Ma:aN:={t:=72,lf:=2,te:=42,ce:=aP,st:=(.st bw (.st (.int .i64) (.st .a8 (.st (.int .u64) (.st aj (.st aj (.st aj (.a7 aj)))))))),arg:=.unit,bG:=.unit,n:=0,pos:=0,box:=false,pre:=SE,f:=fun x=>(Vh x).1,g:=fun x=>(Vh x).2}
theorem Xo:aZ aT 48 Ma:=dI Tryz.f48 [] trivial zT [(97,jr)] ⟨nq,trivial⟩ true
noncomputable def uk (x:V5):Tr eZ:=
 .aa ((0:Nat) < 1)<|
 let y0:aC:=x.2.1
 let y1:Nat:=y0.length
 .aa ((y1:Nat)=y1)<|
 .aa (((0:Nat)+1:Nat)≤1)<|
 let y2:dY:=x.1.2
 let y3:bq:=(x.1.1,(y2.1,((),y2.2.2)))
 let y4:gT:=x.2.2
 let y5:tF:=(y3,(y0,(1,(1,(16,[y4.1])))))
 .aa (dP y5)<|
 .aa ((0:Nat) < 1)<|
 let y6:aC:=(fM y5).1
 let y7:Nat:=y6.length
 .aa ((y7:Nat)=y7)<|
 .aa (((0:Nat)+1:Nat)≤1)<|
 let y8:tF:=(y3,(y6,(1,(1,(19,[y4.2])))))
 .aa (dP y8)<|
 let y9:aC:=(fM y8).1
 let y10:Nat:=y9.length
 .aa ((y10:Nat)=y10)<|
 .aa (y3=x.1)<|
 .ret (y9,())
noncomputable def lH (x):=(uk x).val
def kI (x):=(uk x).ok
noncomputable def oS:aN:={t:=72,lf:=2,te:=42,ce:=aP,st:=(.st bw (.st (.int .i64) (.st .a8 (.st (.int .u64) (.st aj (.st aj (.st aj (.a7 aj)))))))),arg:=(.st aj (.a7 aj)),bG:=.unit,n:=0,pos:=0,box:=false,pre:=kI,f:=fun x=>(lH x).1,g:=fun x=>(lH x).2}
theorem wi:aZ aT 106 oS:=dI Tryz.f106 [] trivial uk [(28,jt)] ⟨nr,trivial⟩ true
noncomputable def uj (x:Kn):Tr eZ:=
 .aa ((0:Nat) < 1)<|
 let y0:aC:=x.2.1
 let y1:Nat:=y0.length
 .aa ((y1:Nat)=y1)<|
 let y2:dY:=x.1.2
 let y3:Int:=y2.1
 let y4:bq:=(x.1.1,(y3,((),y2.2.2)))
 let y5:(List bl):=[x.2.2]
 let y6:tF:=(y4,(y0,(22,(y3,(17,y5)))))
 .aa (dP y6)<|
 .aa ((0:Nat) < 1)<|
 let y7:aC:=(fM y6).1
 let y8:Nat:=y7.length
 .aa ((y8:Nat)=y8)<|
 let y9:tF:=(y4,(y7,(23,(y3,(18,y5)))))
 .aa (dP y9)<|
 .aa ((0:Nat) < 1)<|
 let y10:aC:=(fM y9).1
 let y11:Nat:=y10.length
 .aa ((y11:Nat)=y11)<|
 let y12:tF:=(y4,(y10,(24,(y3,(20,y5)))))
 .aa (dP y12)<|
 let y13:aC:=(fM y12).1
 let y14:Nat:=y13.length
 .aa ((y14:Nat)=y14)<|
 .aa (y4=x.1)<|
 .ret (y13,())
noncomputable def ow (x):=(uj x).val
def lV (x):=(uj x).ok
noncomputable def mV:aN:={t:=72,lf:=2,te:=42,ce:=aP,st:=(.st bw (.st (.int .i64) (.st .a8 (.st (.int .u64) (.st aj (.st aj (.st aj (.a7 aj)))))))),arg:=(.a7 aj),bG:=.unit,n:=0,pos:=0,box:=false,pre:=lV,f:=fun x=>(ow x).1,g:=fun x=>(ow x).2}
theorem sk:aZ aT 107 mV:=dI Tryz.f107 [] trivial uj [(28,jt)] ⟨nr,trivial⟩ true
noncomputable def uq (x:(bq×(List bX×(ai×Ag)))):Tr eZ:=
 .aa ((0:Int)≤0)<|
 .aa ((0:Int) < 3)<|
 .aa ((0:Nat) < 3)<|
 .aa ((0:Nat) < 3)<|
 .aa ((1:Nat) < 3)<|
 .aa ((2:Nat) < 3)<|
 let y0:aC:=x.2.1
 let y1:Nat:=y0.length
 .aa ((y1:Nat)=y1)<|
 let y2:DI:=x.1.1
 let y3:dY:=x.1.2
 let y4:Int:=y3.1
 let y5:bq:=(y2,(y4,((),y3.2.2)))
 let y6:(ai×Ag):=x.2.2
 let y7:ai:=y6.1
 let y8:Ag:=y6.2
 let y9:gT:=y8.2
 let y10:pP:=(y4,[y8.1,y9.1,y9.2])
 let y11:iC:=(y5,(y0,((eX (.int .u8) y7 0),y10)))
 .aa (bC y11)<|
 .aa ((0:Int)≤0)<|
 .aa ((0:Int) < 3)<|
 .aa ((0:Nat) < 3)<|
 .aa ((0:Int)≤1)<|
 .aa ((1:Int) < 3)<|
 .aa ((1:Nat) < 3)<|
 .aa ((0:Nat) < 3)<|
 .aa ((1:Nat) < 3)<|
 .aa ((2:Nat) < 3)<|
 let y12:aC:=(aR y11).1
 let y13:Nat:=y12.length
 .aa ((y13:Nat)=y13)<|
 let y14:iC:=(y5,(y12,((eX (.int .u8) y7 1),y10)))
 .aa (bC y14)<|
 .aa ((0:Int)≤1)<|
 .aa ((1:Int) < 3)<|
 .aa ((1:Nat) < 3)<|
 .aa ((0:Int)≤2)<|
 .aa ((2:Int) < 3)<|
 .aa ((2:Nat) < 3)<|
 .aa ((0:Nat) < 3)<|
 .aa ((1:Nat) < 3)<|
 .aa ((2:Nat) < 3)<|
 let y15:aC:=(aR y14).1
 let y16:Nat:=y15.length
 .aa ((y16:Nat)=y16)<|
 let y17:iC:=(y5,(y15,((eX (.int .u8) y7 2),y10)))
 .aa (bC y17)<|
 .aa ((0:Int)≤2)<|
 .aa ((2:Int) < 3)<|
 .aa ((2:Nat) < 3)<|
 .ite (cB y2.1 10) (
 .aa ((0:Int)≤0)<|
 .aa ((0:Int) < 3)<|
 .aa ((0:Nat) < 3)<|
 let y18:=(aR y17).1
 let y19:Nat:=y18.length
 .aa ((y19:Nat)=y19)<|
 let y20:=(aR y11).2
 let y21:gm:=(y5,(y18,y20))
 .aa (ke y21)<|
 .aa ((0:Int)≤1)<|
 .aa ((1:Int) < 3)<|
 .aa ((1:Nat) < 3)<|
 .aa ((0:Int)≤2)<|
 .aa ((2:Int) < 3)<|
 .aa ((2:Nat) < 3)<|
 let y22:=(kL y21).1
 let y23:Nat:=y22.length
 .aa ((y23:Nat)=y23)<|
 let y24:gT:=((aR y14).2,(aR y17).2)
 let y25:tJ:=(y5,(y22,y24))
 .aa (kI y25)<|
 .aa ((0:Int)≤0)<|
 .aa ((0:Int) < 3)<|
 .aa ((0:Nat) < 3)<|
 let y26:=(lH y25).1
 let y27:Nat:=y26.length
 .aa ((y27:Nat)=y27)<|
 let y28:gm:=(y5,(y26,y20))
 .aa (lV y28)<|
 let y29:=(ow y28).1
 let y30:Nat:=y29.length
 .aa ((y30:Nat)=y30)<|
 .aa (y5=x.1)<|
 .ret (y29,())) (
 .aa ((0:Int)≤1)<|
 .aa ((1:Int) < 3)<|
 .aa ((1:Nat) < 3)<|
 .aa ((0:Int)≤2)<|
 .aa ((2:Int) < 3)<|
 .aa ((2:Nat) < 3)<|
 let y31:=(aR y17).1
 let y32:Nat:=y31.length
 .aa ((y32:Nat)=y32)<|
 let y33:gT:=((aR y14).2,(aR y17).2)
 let y34:tJ:=(y5,(y31,y33))
 .aa (kI y34)<|
 .aa ((0:Int)≤0)<|
 .aa ((0:Int) < 3)<|
 .aa ((0:Nat) < 3)<|
 let y35:=(lH y34).1
 let y36:Nat:=y35.length
 .aa ((y36:Nat)=y36)<|
 let y37:=(aR y11).2
 let y38:gm:=(y5,(y35,y37))
 .aa (lV y38)<|
 let y39:=(ow y38).1
 let y40:Nat:=y39.length
 .aa ((y40:Nat)=y40)<|
 .aa (y5=x.1)<|
 .ret (y39,()))
noncomputable def H7 (x):=(uq x).val
def Fw (x):=(uq x).ok
noncomputable def AE:aN:={t:=72,lf:=2,te:=42,ce:=aP,st:=(.st bw (.st (.int .i64) (.st .a8 (.st (.int .u64) (.st aj (.st aj (.st aj (.a7 aj)))))))),arg:=(.st (.arr 3 (.int .u8)) (.st aj (.st aj (.a7 aj)))),bG:=.unit,n:=0,pos:=0,box:=false,pre:=Fw,f:=fun x=>(H7 x).1,g:=fun x=>(H7 x).2}
theorem MY:aZ aT 102 AE:=dI Tryz.f102 [] trivial uq [(45,eP),(97,jr),(106,oS),(107,mV)] ⟨gI,nq,wi,sk,trivial⟩ true
noncomputable def qz (x:DI):Tr Bool:=
 .ite (ae x.1 9) (
 let y0:=x.2.2.2
 let y1:=y0.1
 let y2:=((ae y1.1 1)==true)
 .ite y2 (
 let y3:=y0.2.1
 let y4:=((ae y3.1 1)==true)
 .ite y4 (
 let y5:=(ae y1.2.1 y3.2.1)
 .ret y5) (
 .ret false)) (
 .ret false)) (
 .ite (ae x.1 8) (
 let y6:=x.2.2.2
 let y7:=y6.1
 let y8:=((ae y7.1 1)==true)
 .ite y8 (
 let y9:=y6.2.1
 let y10:=((ae y9.1 1)==true)
 .ite y10 (
 let y11:=(ae y7.2.1 y9.2.1)
 .ret y11) (
 .ret false)) (
 .ret false)) (
 .ite (ae x.1 36) (
 let y12:=x.2.2.2
 let y13:=y12.1
 let y14:=((ae y13.1 1)==true)
 .ite y14 (
 let y15:=y12.2.1
 let y16:=((ae y15.1 1)==true)
 .ite y16 (
 let y17:=(ae y13.2.1 y15.2.1)
 .ret y17) (
 .ret false)) (
 .ret false)) (
 .ret false)))
noncomputable def fN (x):=(qz x).val
def Fl (x):=(qz x).ok
noncomputable def GF:Spec:={dg:=(.a7 bw),bG:=.bool,n:=1,pre:=Fl,f:=fN}
theorem XM:au aT 124 GF:=iO Tryz.f124 [] trivial qz
noncomputable def um (x:gG):Tr (List bX×gT):=
 let y0:DI:=x.1.1
 .aa (Fl y0)<|
 .ite (fN y0) (
 .aa (dj 0)<|
 .aa (dj 0)<|
 let y1:=x.2.1
 let y2:Nat:=y1.length
 .aa ((y2:Nat)=y2)<|
 let y3:=x.1.2
 let y4:=y3.1
 let y5:=y3.2.2
 let y6:bq:=(y0,(y4,((),y5)))
 .aa (y6=x.1)<|
 .ret (y1,((fg 0),(fg 0)))) (
 let y7:=x.2.1
 let y8:Nat:=y7.length
 .aa ((y8:Nat)=y8)<|
 let y9:=x.1.2
 let y10:=y9.1
 let y11:=y9.2.2
 let y12:bq:=(y0,(y10,((),y11)))
 let y13:=y0.2.2.2
 let y14:=y11.2
 let y15:pQ:=(y12,(y7,(y13.1,(y14.1,y10))))
 .aa (j9 y15)<|
 let y16:=(fY y15).1
 let y17:Nat:=y16.length
 .aa ((y17:Nat)=y17)<|
 let y18:pQ:=(y12,(y16,(y13.2.1,(y14.2.1,y10))))
 .aa (j9 y18)<|
 let y19:=(fY y18).1
 let y20:Nat:=y19.length
 .aa ((y20:Nat)=y20)<|
 .aa (y12=x.1)<|
 .ret (y19,((fY y15).2,(fY y18).2)))
noncomputable def tl (x):=(um x).val
def AQ (x):=(um x).ok
noncomputable def uF:aN:={t:=72,lf:=2,te:=42,ce:=aP,st:=(.st bw (.st (.int .i64) (.st .a8 (.st (.int .u64) (.st aj (.st aj (.st aj (.a7 aj)))))))),arg:=.unit,bG:=(.st aj (.a7 aj)),n:=2,pos:=0,box:=false,pre:=AQ,f:=fun x=>(tl x).1,g:=fun x=>(tl x).2}
theorem Fz:aZ aT 105 uF:=dI Tryz.f105 [(9,gn),(124,GF)] ⟨xy,XM,trivial⟩ um [(98,iM)] ⟨mc,trivial⟩ true
noncomputable def zb (x:(bq×(List bX×(ai×bl)))):Tr eZ:=
 let y0:aC:=x.2.1
 let y1:Nat:=y0.length
 .aa ((y1:Nat)=y1)<|
 let y2:dY:=x.1.2
 let y3:bq:=(x.1.1,(y2.1,((),y2.2.2)))
 let y4:vC:=(y3,(y0,()))
 .aa (AQ y4)<|
 let y5:aC:=(tl y4).1
 let y6:Nat:=y5.length
 .aa ((y6:Nat)=y6)<|
 let y7:(ai×bl):=x.2.2
 let y8:gT:=(tl y4).2
 let y9:tY3:=(y3,(y5,(y7.1,(y8.1,(y8.2,y7.2)))))
 .aa (Fw y9)<|
 let y10:aC:=(H7 y9).1
 let y11:Nat:=y10.length
 .aa ((y11:Nat)=y11)<|
 .aa (y3=x.1)<|
 .ret (y10,())
noncomputable def Jv (x):=(zb x).val
def CA (x):=(zb x).ok
noncomputable def vY:aN:={t:=72,lf:=2,te:=42,ce:=aP,st:=(.st bw (.st (.int .i64) (.st .a8 (.st (.int .u64) (.st aj (.st aj (.st aj (.a7 aj)))))))),arg:=(.st (.arr 3 (.int .u8)) (.a7 aj)),bG:=.unit,n:=0,pos:=0,box:=false,pre:=CA,f:=fun x=>(Jv x).1,g:=fun x=>(Jv x).2}
theorem Hk:aZ aT 99 vY:=dI Tryz.f99 [] trivial zb [(102,AE),(105,uF)] ⟨MY,Fz,trivial⟩ true
noncomputable def zS (x:gG):Tr eZ:=
 .aa (dj 0)<|
 let y0:aC:=x.2.1
 let y1:Nat:=y0.length
 .aa ((y1:Nat)=y1)<|
 let y2:dY:=x.1.2
 let y3:bq:=(x.1.1,(y2.1,((),y2.2.2)))
 let y4:PF:=(y3,(y0,([2,4,6],(fg 0))))
 .aa (CA y4)<|
 let y5:aC:=(Jv y4).1
 let y6:Nat:=y5.length
 .aa ((y6:Nat)=y6)<|
 .aa (y3=x.1)<|
 .ret (y5,())
noncomputable def Vg (x):=(zS x).val
def SD (x):=(zS x).ok
noncomputable def L9:aN:={t:=72,lf:=2,te:=42,ce:=aP,st:=(.st bw (.st (.int .i64) (.st .a8 (.st (.int .u64) (.st aj (.st aj (.st aj (.a7 aj)))))))),arg:=.unit,bG:=.unit,n:=0,pos:=0,box:=false,pre:=SD,f:=fun x=>(Vg x).1,g:=fun x=>(Vg x).2}
theorem Xn:aZ aT 49 L9:=dI Tryz.f49 [(9,gn)] ⟨xy,trivial⟩ zS [(99,vY)] ⟨Hk,trivial⟩ true
noncomputable def zQ (x:gG):Tr eZ:=
 .aa (dU 16)<|
 let y0:aC:=x.2.1
 let y1:Nat:=y0.length
 .aa ((y1:Nat)=y1)<|
 let y2:dY:=x.1.2
 let y3:bq:=(x.1.1,(y2.1,((),y2.2.2)))
 let y4:PF:=(y3,(y0,([2,4,6],(fZ 16))))
 .aa (CA y4)<|
 let y5:aC:=(Jv y4).1
 let y6:Nat:=y5.length
 .aa ((y6:Nat)=y6)<|
 .aa (y3=x.1)<|
 .ret (y5,())
noncomputable def Vf (x):=(zQ x).val
def SC (x):=(zQ x).ok
noncomputable def L8:aN:={t:=72,lf:=2,te:=42,ce:=aP,st:=(.st bw (.st (.int .i64) (.st .a8 (.st (.int .u64) (.st aj (.st aj (.st aj (.a7 aj)))))))),arg:=.unit,bG:=.unit,n:=0,pos:=0,box:=false,pre:=SC,f:=fun x=>(Vf x).1,g:=fun x=>(Vf x).2}
theorem Xm:aZ aT 50 L8:=dI Tryz.f50 [(12,gU)] ⟨qP,trivial⟩ zQ [(99,vY)] ⟨Hk,trivial⟩ true
noncomputable def zP (x:gG):Tr eZ:=
 .aa (dj 0)<|
 let y0:aC:=x.2.1
 let y1:Nat:=y0.length
 .aa ((y1:Nat)=y1)<|
 let y2:dY:=x.1.2
 let y3:bq:=(x.1.1,(y2.1,((),y2.2.2)))
 let y4:PF:=(y3,(y0,([3,5,7],(fg 0))))
 .aa (CA y4)<|
 let y5:aC:=(Jv y4).1
 let y6:Nat:=y5.length
 .aa ((y6:Nat)=y6)<|
 .aa (y3=x.1)<|
 .ret (y5,())
noncomputable def QV (x):=(zP x).val
def Mu (x):=(zP x).ok
noncomputable def L7:aN:={t:=72,lf:=2,te:=42,ce:=aP,st:=(.st bw (.st (.int .i64) (.st .a8 (.st (.int .u64) (.st aj (.st aj (.st aj (.a7 aj)))))))),arg:=.unit,bG:=.unit,n:=0,pos:=0,box:=false,pre:=Mu,f:=fun x=>(QV x).1,g:=fun x=>(QV x).2}
theorem Xl:aZ aT 51 L7:=dI Tryz.f51 [(9,gn)] ⟨xy,trivial⟩ zP [(99,vY)] ⟨Hk,trivial⟩ true
noncomputable def zN (x:gG):Tr eZ:=
 .aa (dU 16)<|
 let y0:aC:=x.2.1
 let y1:Nat:=y0.length
 .aa ((y1:Nat)=y1)<|
 let y2:dY:=x.1.2
 let y3:bq:=(x.1.1,(y2.1,((),y2.2.2)))
 let y4:PF:=(y3,(y0,([3,5,7],(fZ 16))))
 .aa (CA y4)<|
 let y5:aC:=(Jv y4).1
 let y6:Nat:=y5.length
 .aa ((y6:Nat)=y6)<|
 .aa (y3=x.1)<|
 .ret (y5,())
noncomputable def Ve (x):=(zN x).val
def SB (x):=(zN x).ok
noncomputable def L6:aN:={t:=72,lf:=2,te:=42,ce:=aP,st:=(.st bw (.st (.int .i64) (.st .a8 (.st (.int .u64) (.st aj (.st aj (.st aj (.a7 aj)))))))),arg:=.unit,bG:=.unit,n:=0,pos:=0,box:=false,pre:=SB,f:=fun x=>(Ve x).1,g:=fun x=>(Ve x).2}
theorem Xk:aZ aT 52 L6:=dI Tryz.f52 [(12,gU)] ⟨qP,trivial⟩ zN [(99,vY)] ⟨Hk,trivial⟩ true
end Go.aA.RV
end
section
namespace Go.aA.RV
open Go.Proofs Go.aA
noncomputable def uu (x:V3):Tr eZ:=
 let y0:aC:=x.2.1
 let y1:Nat:=y0.length
 .aa ((y1:Nat)=y1)<|
 let y2:DI:=x.1.1
 let y3:dY:=x.1.2
 let y4:Int:=y3.1
 let y5:bq:=(y2,(y4,((),y3.2.2)))
 let y6:vC:=(y5,(y0,()))
 .aa (AQ y6)<|
 .aa ((0:Nat) < 2)<|
 .aa ((1:Nat) < 2)<|
 let y7:aC:=(tl y6).1
 let y8:Nat:=y7.length
 .aa ((y8:Nat)=y8)<|
 let y9:gT:=(tl y6).2
 let y10:iC:=(y5,(y7,(x.2.2,(y4,[y9.1,y9.2]))))
 .aa (bC y10)<|
 .ite (cB y2.1 11) (
 let y11:=(aR y10).1
 let y12:Nat:=y11.length
 .aa ((y12:Nat)=y12)<|
 let y13:=(aR y10).2
 let y14:gm:=(y5,(y11,y13))
 .aa (ke y14)<|
 .aa (dj 0)<|
 .aa (dj 0)<|
 let y15:=(kL y14).1
 let y16:Nat:=y15.length
 .aa ((y16:Nat)=y16)<|
 let y17:gT:=((fg 0),(fg 0))
 let y18:tJ:=(y5,(y15,y17))
 .aa (kI y18)<|
 let y19:=(lH y18).1
 let y20:Nat:=y19.length
 .aa ((y20:Nat)=y20)<|
 let y21:gm:=(y5,(y19,y13))
 .aa (lV y21)<|
 let y22:=(ow y21).1
 let y23:Nat:=y22.length
 .aa ((y23:Nat)=y23)<|
 .aa (y5=x.1)<|
 .ret (y22,())) (
 .aa (dj 0)<|
 .aa (dj 0)<|
 let y24:=(aR y10).1
 let y25:Nat:=y24.length
 .aa ((y25:Nat)=y25)<|
 let y26:gT:=((fg 0),(fg 0))
 let y27:tJ:=(y5,(y24,y26))
 .aa (kI y27)<|
 let y28:=(lH y27).1
 let y29:Nat:=y28.length
 .aa ((y29:Nat)=y29)<|
 let y30:=(aR y10).2
 let y31:gm:=(y5,(y28,y30))
 .aa (lV y31)<|
 let y32:=(ow y31).1
 let y33:Nat:=y32.length
 .aa ((y33:Nat)=y33)<|
 .aa (y5=x.1)<|
 .ret (y32,()))
noncomputable def D3 (x):=(uu x).val
def AS (x):=(uu x).ok
noncomputable def uG:aN:={t:=72,lf:=2,te:=42,ce:=aP,st:=(.st bw (.st (.int .i64) (.st .a8 (.st (.int .u64) (.st aj (.st aj (.st aj (.a7 aj)))))))),arg:=(.a7 (.int .u8)),bG:=.unit,n:=0,pos:=0,box:=false,pre:=AS,f:=fun x=>(D3 x).1,g:=fun x=>(D3 x).2}
theorem FA:aZ aT 100 uG:=dI Tryz.f100 [(9,gn)] ⟨xy,trivial⟩ uu [(45,eP),(97,jr),(105,uF),(106,oS),(107,mV)] ⟨gI,nq,Fz,wi,sk,trivial⟩ true
noncomputable def zM (x:gG):Tr eZ:=
 let y0:aC:=x.2.1
 let y1:Nat:=y0.length
 .aa ((y1:Nat)=y1)<|
 let y2:dY:=x.1.2
 let y3:bq:=(x.1.1,(y2.1,((),y2.2.2)))
 let y4:B5:=(y3,(y0,8))
 .aa (AS y4)<|
 let y5:aC:=(D3 y4).1
 let y6:Nat:=y5.length
 .aa ((y6:Nat)=y6)<|
 .aa (y3=x.1)<|
 .ret (y5,())
noncomputable def QU (x):=(zM x).val
def Mt (x):=(zM x).ok
noncomputable def L5:aN:={t:=72,lf:=2,te:=42,ce:=aP,st:=(.st bw (.st (.int .i64) (.st .a8 (.st (.int .u64) (.st aj (.st aj (.st aj (.a7 aj)))))))),arg:=.unit,bG:=.unit,n:=0,pos:=0,box:=false,pre:=Mt,f:=fun x=>(QU x).1,g:=fun x=>(QU x).2}
theorem Xj:aZ aT 53 L5:=dI Tryz.f53 [] trivial zM [(100,uG)] ⟨FA,trivial⟩ true
noncomputable def zL (x:gG):Tr eZ:=
 let y0:aC:=x.2.1
 let y1:Nat:=y0.length
 .aa ((y1:Nat)=y1)<|
 let y2:dY:=x.1.2
 let y3:bq:=(x.1.1,(y2.1,((),y2.2.2)))
 let y4:B5:=(y3,(y0,9))
 .aa (AS y4)<|
 let y5:aC:=(D3 y4).1
 let y6:Nat:=y5.length
 .aa ((y6:Nat)=y6)<|
 .aa (y3=x.1)<|
 .ret (y5,())
noncomputable def Vd (x):=(zL x).val
def SA (x):=(zL x).ok
noncomputable def L4:aN:={t:=72,lf:=2,te:=42,ce:=aP,st:=(.st bw (.st (.int .i64) (.st .a8 (.st (.int .u64) (.st aj (.st aj (.st aj (.a7 aj)))))))),arg:=.unit,bG:=.unit,n:=0,pos:=0,box:=false,pre:=SA,f:=fun x=>(Vd x).1,g:=fun x=>(Vd x).2}
theorem Xi:aZ aT 54 L4:=dI Tryz.f54 [] trivial zL [(100,uG)] ⟨FA,trivial⟩ true
noncomputable def zK (x:gG):Tr eZ:=
 let y0:aC:=x.2.1
 let y1:Nat:=y0.length
 .aa ((y1:Nat)=y1)<|
 let y2:dY:=x.1.2
 let y3:bq:=(x.1.1,(y2.1,((),y2.2.2)))
 let y4:B5:=(y3,(y0,10))
 .aa (AS y4)<|
 let y5:aC:=(D3 y4).1
 let y6:Nat:=y5.length
 .aa ((y6:Nat)=y6)<|
 .aa (y3=x.1)<|
 .ret (y5,())
noncomputable def Vc (x):=(zK x).val
def Sz (x):=(zK x).ok
noncomputable def L3:aN:={t:=72,lf:=2,te:=42,ce:=aP,st:=(.st bw (.st (.int .i64) (.st .a8 (.st (.int .u64) (.st aj (.st aj (.st aj (.a7 aj)))))))),arg:=.unit,bG:=.unit,n:=0,pos:=0,box:=false,pre:=Sz,f:=fun x=>(Vc x).1,g:=fun x=>(Vc x).2}
theorem Xh:aZ aT 55 L3:=dI Tryz.f55 [] trivial zK [(100,uG)] ⟨FA,trivial⟩ true
noncomputable def ur (x:(bq×(List bX×bt))):Tr eZ:=
 let y0:aC:=x.2.1
 let y1:Nat:=y0.length
 .aa ((y1:Nat)=y1)<|
 let y2:DI:=x.1.1
 let y3:dY:=x.1.2
 let y4:Int:=y3.1
 let y5:o6:=y3.2.2
 let y6:bq:=(y2,(y4,((),y5)))
 let y7:pQ:=(y6,(y0,(y2.2.2.2.1,(y5.2.1,y4))))
 .aa (j9 y7)<|
 .aa (dj 1)<|
 .aa ((0:Nat) < 2)<|
 .aa ((1:Nat) < 2)<|
 let y8:aC:=(fY y7).1
 let y9:Nat:=y8.length
 .aa ((y9:Nat)=y9)<|
 let y10:bt:=x.2.2
 let y11:pP:=(y4,[(fY y7).2,(fg 1)])
 let y12:iC:=(y6,(y8,(y10.1,y11)))
 .aa (bC y12)<|
 .aa (dj 1)<|
 .aa ((0:Nat) < 2)<|
 .aa ((1:Nat) < 2)<|
 let y13:aC:=(aR y12).1
 let y14:Nat:=y13.length
 .aa ((y14:Nat)=y14)<|
 let y15:iC:=(y6,(y13,(y10.2,y11)))
 .aa (bC y15)<|
 let y16:aC:=(aR y15).1
 let y17:Nat:=y16.length
 .aa ((y17:Nat)=y17)<|
 let y18:bl:=(aR y12).2
 let y19:gm:=(y6,(y16,y18))
 .aa (ke y19)<|
 .aa ((0:Nat) < 1)<|
 let y20:aC:=(kL y19).1
 let y21:Nat:=y20.length
 .aa ((y21:Nat)=y21)<|
 .aa (((0:Nat)+1:Nat)≤1)<|
 let y22:tF:=(y6,(y20,(1,(1,(19,[(aR y15).2])))))
 .aa (dP y22)<|
 let y23:aC:=(fM y22).1
 let y24:Nat:=y23.length
 .aa ((y24:Nat)=y24)<|
 let y25:gm:=(y6,(y23,y18))
 .aa (lV y25)<|
 let y26:aC:=(ow y25).1
 let y27:Nat:=y26.length
 .aa ((y27:Nat)=y27)<|
 .aa (y6=x.1)<|
 .ret (y26,())
noncomputable def H8 (x):=(ur x).val
def Fx (x):=(ur x).ok
noncomputable def AF:aN:={t:=72,lf:=2,te:=42,ce:=aP,st:=(.st bw (.st (.int .i64) (.st .a8 (.st (.int .u64) (.st aj (.st aj (.st aj (.a7 aj)))))))),arg:=(.st (.int .u8) (.a7 (.int .u8))),bG:=.unit,n:=0,pos:=0,box:=false,pre:=Fx,f:=fun x=>(H8 x).1,g:=fun x=>(H8 x).2}
theorem MZ:aZ aT 101 AF:=dI Tryz.f101 [(9,gn)] ⟨xy,trivial⟩ ur [(28,jt),(45,eP),(97,jr),(98,iM),(107,mV)] ⟨nr,gI,nq,mc,sk,trivial⟩ true
noncomputable def zJ (x:gG):Tr eZ:=
 let y0:aC:=x.2.1
 let y1:Nat:=y0.length
 .aa ((y1:Nat)=y1)<|
 let y2:dY:=x.1.2
 let y3:bq:=(x.1.1,(y2.1,((),y2.2.2)))
 let y4:V4:=(y3,(y0,(2,6)))
 .aa (Fx y4)<|
 let y5:aC:=(H8 y4).1
 let y6:Nat:=y5.length
 .aa ((y6:Nat)=y6)<|
 .aa (y3=x.1)<|
 .ret (y5,())
noncomputable def Vb (x):=(zJ x).val
def Sy (x):=(zJ x).ok
noncomputable def L2:aN:={t:=72,lf:=2,te:=42,ce:=aP,st:=(.st bw (.st (.int .i64) (.st .a8 (.st (.int .u64) (.st aj (.st aj (.st aj (.a7 aj)))))))),arg:=.unit,bG:=.unit,n:=0,pos:=0,box:=false,pre:=Sy,f:=fun x=>(Vb x).1,g:=fun x=>(Vb x).2}
theorem Xg:aZ aT 56 L2:=dI Tryz.f56 [] trivial zJ [(101,AF)] ⟨MZ,trivial⟩ true
noncomputable def zH (x:gG):Tr eZ:=
 let y0:aC:=x.2.1
 let y1:Nat:=y0.length
 .aa ((y1:Nat)=y1)<|
 let y2:dY:=x.1.2
 let y3:bq:=(x.1.1,(y2.1,((),y2.2.2)))
 let y4:V4:=(y3,(y0,(3,7)))
 .aa (Fx y4)<|
 let y5:aC:=(H8 y4).1
 let y6:Nat:=y5.length
 .aa ((y6:Nat)=y6)<|
 .aa (y3=x.1)<|
 .ret (y5,())
noncomputable def Va (x):=(zH x).val
def Sx (x):=(zH x).ok
noncomputable def L1:aN:={t:=72,lf:=2,te:=42,ce:=aP,st:=(.st bw (.st (.int .i64) (.st .a8 (.st (.int .u64) (.st aj (.st aj (.st aj (.a7 aj)))))))),arg:=.unit,bG:=.unit,n:=0,pos:=0,box:=false,pre:=Sx,f:=fun x=>(Va x).1,g:=fun x=>(Va x).2}
theorem Xf:aZ aT 57 L1:=dI Tryz.f57 [] trivial zH [(101,AF)] ⟨MZ,trivial⟩ true
noncomputable def zG (x:gG):Tr eZ:=
 .aa (dj 0)<|
 let y0:aC:=x.2.1
 let y1:Nat:=y0.length
 .aa ((y1:Nat)=y1)<|
 let y2:DI:=x.1.1
 let y3:dY:=x.1.2
 let y4:Int:=y3.1
 let y5:o6:=y3.2.2
 let y6:bq:=(y2,(y4,((),y5)))
 let y7:pQ:=(y6,(y0,(y2.2.2.2.1,(y5.2.1,y4))))
 .aa (j9 y7)<|
 .aa (dj 0)<|
 let y8:aC:=(fY y7).1
 let y9:Nat:=y8.length
 .aa ((y9:Nat)=y9)<|
 let y10:tY3:=(y6,(y8,([3,5,7],((fg 0),((fY y7).2,(fg 0))))))
 .aa (Fw y10)<|
 let y11:aC:=(H7 y10).1
 let y12:Nat:=y11.length
 .aa ((y12:Nat)=y12)<|
 .aa (y6=x.1)<|
 .ret (y11,())
noncomputable def U9 (x):=(zG x).val
def Sw (x):=(zG x).ok
noncomputable def L0:aN:={t:=72,lf:=2,te:=42,ce:=aP,st:=(.st bw (.st (.int .i64) (.st .a8 (.st (.int .u64) (.st aj (.st aj (.st aj (.a7 aj)))))))),arg:=.unit,bG:=.unit,n:=0,pos:=0,box:=false,pre:=Sw,f:=fun x=>(U9 x).1,g:=fun x=>(U9 x).2}
theorem Xe:aZ aT 58 L0:=dI Tryz.f58 [(9,gn)] ⟨xy,trivial⟩ zG [(98,iM),(102,AE)] ⟨mc,MY,trivial⟩ true
noncomputable def zF (x:gG):Tr eZ:=
 let y0:aC:=x.2.1
 let y1:Nat:=y0.length
 .aa ((y1:Nat)=y1)<|
 let y2:DI:=x.1.1
 let y3:dY:=x.1.2
 let y4:Int:=y3.1
 let y5:o6:=y3.2.2
 let y6:bq:=(y2,(y4,((),y5)))
 let y7:pQ:=(y6,(y0,(y2.2.2.2.1,(y5.2.1,y4))))
 .aa (j9 y7)<|
 .aa (AR y4)<|
 let y8:Int:=(Ob y4)
 .aa (dj y8)<|
 .aa ((0:Nat) < 2)<|
 .aa ((1:Nat) < 2)<|
 let y9:aC:=(fY y7).1
 let y10:Nat:=y9.length
 .aa ((y10:Nat)=y10)<|
 let y11:iC:=(y6,(y9,(10,(y4,[(fY y7).2,(fg y8)]))))
 .aa (bC y11)<|
 let y12:aC:=(aR y11).1
 let y13:Nat:=y12.length
 .aa ((y13:Nat)=y13)<|
 let y14:gm:=(y6,(y12,(aR y11).2))
 .aa (ke y14)<|
 let y15:aC:=(kL y14).1
 let y16:Nat:=y15.length
 .aa ((y16:Nat)=y16)<|
 .aa (y6=x.1)<|
 .ret (y15,())
noncomputable def U8 (x):=(zF x).val
def Sv (x):=(zF x).ok
noncomputable def LZ:aN:={t:=72,lf:=2,te:=42,ce:=aP,st:=(.st bw (.st (.int .i64) (.st .a8 (.st (.int .u64) (.st aj (.st aj (.st aj (.a7 aj)))))))),arg:=.unit,bG:=.unit,n:=0,pos:=0,box:=false,pre:=Sv,f:=fun x=>(U8 x).1,g:=fun x=>(U8 x).2}
theorem Xd:aZ aT 59 LZ:=dI Tryz.f59 [(9,gn),(103,Ap)] ⟨xy,SK,trivial⟩ zF [(45,eP),(97,jr),(98,iM)] ⟨gI,nq,mc,trivial⟩ true
noncomputable def tW (x:V7):Tr tE:=
 let y0:Ag:=x.2.2
 let y1:gT:=y0.2
 .ite y1.2.1 (
 let y2:=y0.1
 let y3:=y1.1
 let y4:Int:=(eG .u64 y2.2.2 y3.2.2)
 .aa (dj y4)<|
 let y5:=x.2.1
 let y6:Nat:=y5.length
 .aa ((y6:Nat)=y6)<|
 let y7:=x.1.2
 let y8:bq:=(x.1.1,(y7.1,((),y7.2.2)))
 .aa (y8=x.1)<|
 .ret (y5,(fg y4))) (
 .aa ((0:Nat) < 2)<|
 .aa ((1:Nat) < 2)<|
 let y9:=x.2.1
 let y10:Nat:=y9.length
 .aa ((y10:Nat)=y10)<|
 .aa (((0:Nat)+2:Nat)≤2)<|
 let y11:=x.1.2
 let y12:bq:=(x.1.1,(y11.1,((),y11.2.2)))
 let y13:=y0.1
 let y14:=y1.1
 let y15:iC:=(y12,(y9,(3,(1,[y13,y14]))))
 .aa (bC y15)<|
 let y16:=(aR y15).1
 let y17:Nat:=y16.length
 .aa ((y17:Nat)=y17)<|
 .aa (y12=x.1)<|
 .ret (y16,(aR y15).2))
noncomputable def th (x):=(tW x).val
def AI (x):=(tW x).ok
noncomputable def G1:aN:={t:=72,lf:=2,te:=42,ce:=aP,st:=(.st bw (.st (.int .i64) (.st .a8 (.st (.int .u64) (.st aj (.st aj (.st aj (.a7 aj)))))))),arg:=(.st aj (.st aj (.a7 (.ref aj)))),bG:=aj,n:=1,pos:=3,box:=true,pre:=AI,f:=fun x=>(th x).1,g:=fun x=>(th x).2}
theorem TR:aZ aT 164 G1:=dI Tryz.f164 [(9,gn)] ⟨xy,trivial⟩ tW [(45,eP)] ⟨gI,trivial⟩ true
noncomputable def tV (x:Kn):Tr tE:=
 .aa (dj 1)<|
 .aa ((0:Nat) < 2)<|
 .aa ((1:Nat) < 2)<|
 let y0:aC:=x.2.1
 let y1:Nat:=y0.length
 .aa ((y1:Nat)=y1)<|
 let y2:dY:=x.1.2
 let y3:bq:=(x.1.1,(y2.1,((),y2.2.2)))
 let y4:iC:=(y3,(y0,(8,(1,[x.2.2,(fg 1)]))))
 .aa (bC y4)<|
 let y5:aC:=(aR y4).1
 let y6:Nat:=y5.length
 .aa ((y6:Nat)=y6)<|
 .aa (y3=x.1)<|
 .ret (y5,(aR y4).2)
noncomputable def pD (x):=(tV x).val
def wg (x):=(tV x).ok
noncomputable def G0:aN:={t:=72,lf:=2,te:=42,ce:=aP,st:=(.st bw (.st (.int .i64) (.st .a8 (.st (.int .u64) (.st aj (.st aj (.st aj (.a7 aj)))))))),arg:=(.a7 aj),bG:=aj,n:=1,pos:=1,box:=true,pre:=wg,f:=fun x=>(pD x).1,g:=fun x=>(pD x).2}
theorem TQ:aZ aT 165 G0:=dI Tryz.f165 [(9,gn)] ⟨xy,trivial⟩ tV [(45,eP)] ⟨gI,trivial⟩ true
noncomputable def tU (x:Kn):Tr tE:=
 .aa ((0:Nat) < 1)<|
 let y0:aC:=x.2.1
 let y1:Nat:=y0.length
 .aa ((y1:Nat)=y1)<|
 let y2:dY:=x.1.2
 let y3:Int:=y2.1
 let y4:bq:=(x.1.1,(y3,((),y2.2.2)))
 let y5:iC:=(y4,(y0,(23,(y3,[x.2.2]))))
 .aa (bC y5)<|
 let y6:aC:=(aR y5).1
 let y7:Nat:=y6.length
 .aa ((y7:Nat)=y7)<|
 .aa (y4=x.1)<|
 .ret (y6,(aR y5).2)
noncomputable def nv (x):=(tU x).val
def sf (x):=(tU x).ok
noncomputable def GZ:aN:={t:=72,lf:=2,te:=42,ce:=aP,st:=(.st bw (.st (.int .i64) (.st .a8 (.st (.int .u64) (.st aj (.st aj (.st aj (.a7 aj)))))))),arg:=(.a7 aj),bG:=aj,n:=1,pos:=1,box:=true,pre:=sf,f:=fun x=>(nv x).1,g:=fun x=>(nv x).2}
theorem TP:aZ aT 166 GZ:=dI Tryz.f166 [] trivial tU [(45,eP)] ⟨gI,trivial⟩ true
noncomputable def tZ (x:V7):Tr (List bX×gT):=
 let y0:DI:=x.1.1
 let y1:Int:=y0.1
 .ite (ae y1 16) (
 let y2:=x.1.2
 let y3:=y2.1
 let y4:Int:=(af .u64 (cX .i64 8 y3))
 .aa (dj y4)<|
 let y5:=x.2.1
 let y6:Nat:=y5.length
 .aa ((y6:Nat)=y6)<|
 let y7:bq:=(y0,(y3,((),y2.2.2)))
 let y8:=x.2.2
 let y9:=y8.2
 let y10:=y9.2
 let y11:V2:=(y7,(y5,((fg y4),(y10,y10))))
 .aa (AI y11)<|
 .aa ((0:Nat) < 2)<|
 .aa ((1:Nat) < 2)<|
 let y12:=(th y11).1
 let y13:Nat:=y12.length
 .aa ((y13:Nat)=y13)<|
 let y14:=y8.1
 let y15:iC:=(y7,(y12,(12,(y3,[y14,(th y11).2]))))
 .aa (bC y15)<|
 let y16:=(aR y15).1
 let y17:Nat:=y16.length
 .aa ((y17:Nat)=y17)<|
 let y18:gm:=(y7,(y16,(aR y15).2))
 .aa (wg y18)<|
 let y19:=(pD y18).1
 let y20:Nat:=y19.length
 .aa ((y20:Nat)=y20)<|
 let y21:=y9.1
 let y22:gm:=(y7,(y19,y21))
 .aa (sf y22)<|
 .aa ((0:Nat) < 2)<|
 .aa ((1:Nat) < 2)<|
 let y23:=(nv y22).1
 let y24:Nat:=y23.length
 .aa ((y24:Nat)=y24)<|
 let y25:=(pD y18).2
 let y26:iC:=(y7,(y23,(10,(1,[(nv y22).2,y25]))))
 .aa (bC y26)<|
 let y27:=(aR y26).1
 let y28:Nat:=y27.length
 .aa ((y28:Nat)=y28)<|
 .aa (y7=x.1)<|
 .ret (y27,(y25,(aR y26).2))) (
 .ite (ae y1 17) (
 .aa (dj 1)<|
 let y29:=x.2.1
 let y30:Nat:=y29.length
 .aa ((y30:Nat)=y30)<|
 let y31:=x.1.2
 let y32:=y31.1
 let y33:bq:=(y0,(y32,((),y31.2.2)))
 let y34:=x.2.2
 let y35:=y34.2
 let y36:=y35.2
 let y37:V2:=(y33,(y29,(y36,((fg 1),y36))))
 .aa (AI y37)<|
 .aa ((0:Nat) < 2)<|
 .aa ((1:Nat) < 2)<|
 let y38:=(th y37).1
 let y39:Nat:=y38.length
 .aa ((y39:Nat)=y39)<|
 let y40:=y34.1
 let y41:pP:=(y32,[y40,(th y37).2])
 let y42:iC:=(y33,(y38,(12,y41)))
 .aa (bC y42)<|
 let y43:=(aR y42).1
 let y44:Nat:=y43.length
 .aa ((y44:Nat)=y44)<|
 let y45:gm:=(y33,(y43,(aR y42).2))
 .aa (wg y45)<|
 let y46:=(pD y45).1
 let y47:Nat:=y46.length
 .aa ((y47:Nat)=y47)<|
 let y48:gm:=(y33,(y46,y40))
 .aa (sf y48)<|
 let y49:=(nv y48).1
 let y50:Nat:=y49.length
 .aa ((y50:Nat)=y50)<|
 .aa (y33=x.1)<|
 .ret (y49,((pD y45).2,(nv y48).2))) (
 .ite (ae y1 18) (
 .aa (dj 1)<|
 let y51:=x.2.1
 let y52:Nat:=y51.length
 .aa ((y52:Nat)=y52)<|
 let y53:=x.1.2
 let y54:=y53.1
 let y55:bq:=(y0,(y54,((),y53.2.2)))
 let y56:=x.2.2
 let y57:=y56.2
 let y58:=y57.2
 let y59:V2:=(y55,(y51,(y58,((fg 1),y58))))
 .aa (AI y59)<|
 .aa ((0:Nat) < 2)<|
 .aa ((1:Nat) < 2)<|
 let y60:=(th y59).1
 let y61:Nat:=y60.length
 .aa ((y61:Nat)=y61)<|
 let y62:=y56.1
 let y63:pP:=(y54,[y62,(th y59).2])
 let y64:iC:=(y55,(y60,(13,y63)))
 .aa (bC y64)<|
 let y65:=(aR y64).1
 let y66:Nat:=y65.length
 .aa ((y66:Nat)=y66)<|
 let y67:gm:=(y55,(y65,(aR y64).2))
 .aa (wg y67)<|
 .aa (dj 0)<|
 let y68:=(pD y67).1
 let y69:Nat:=y68.length
 .aa ((y69:Nat)=y69)<|
 .aa (y55=x.1)<|
 .ret (y68,((pD y67).2,(fg 0)))) (
 .ite (ae y1 19) (
 let y70:=x.2.1
 let y71:Nat:=y70.length
 .aa ((y71:Nat)=y71)<|
 let y72:=x.1.2
 let y73:=y72.1
 let y74:bq:=(y0,(y73,((),y72.2.2)))
 let y75:=x.2.2
 let y76:=y75.2
 let y77:=y76.1
 let y78:gm:=(y74,(y70,y77))
 .aa (wg y78)<|
 let y79:=(pD y78).1
 let y80:Nat:=y79.length
 .aa ((y80:Nat)=y80)<|
 let y81:gm:=(y74,(y79,y77))
 .aa (sf y81)<|
 .aa ((0:Nat) < 2)<|
 .aa ((1:Nat) < 2)<|
 let y82:=(nv y81).1
 let y83:Nat:=y82.length
 .aa ((y83:Nat)=y83)<|
 let y84:=(pD y78).2
 let y85:iC:=(y74,(y82,(10,(1,[(nv y81).2,y84]))))
 .aa (bC y85)<|
 let y86:=(aR y85).1
 let y87:Nat:=y86.length
 .aa ((y87:Nat)=y87)<|
 .aa (y74=x.1)<|
 .ret (y86,(y84,(aR y85).2))) (
 let y88:=x.2.1
 let y89:Nat:=y88.length
 .aa ((y89:Nat)=y89)<|
 let y90:=x.1.2
 let y91:=y90.1
 let y92:bq:=(y0,(y91,((),y90.2.2)))
 let y93:=x.2.2
 let y94:=y93.2
 let y95:=y94.1
 let y96:gm:=(y92,(y88,y95))
 .aa (sf y96)<|
 .aa (dj 1)<|
 .aa ((0:Nat) < 2)<|
 .aa ((1:Nat) < 2)<|
 let y97:=(nv y96).1
 let y98:Nat:=y97.length
 .aa ((y98:Nat)=y98)<|
 let y99:iC:=(y92,(y97,(11,(y91,[y95,(fg 1)]))))
 .aa (bC y99)<|
 let y100:=(aR y99).1
 let y101:Nat:=y100.length
 .aa ((y101:Nat)=y101)<|
 let y102:gm:=(y92,(y100,(aR y99).2))
 .aa (sf y102)<|
 .aa ((0:Nat) < 2)<|
 .aa ((1:Nat) < 2)<|
 let y103:=(nv y102).1
 let y104:Nat:=y103.length
 .aa ((y104:Nat)=y104)<|
 let y105:=(nv y96).2
 let y106:iC:=(y92,(y103,(10,(1,[y105,(nv y102).2]))))
 .aa (bC y106)<|
 let y107:=(aR y106).1
 let y108:Nat:=y107.length
 .aa ((y108:Nat)=y108)<|
 .aa (y92=x.1)<|
 .ret (y107,(y105,(aR y106).2))))))
noncomputable def nw (x):=(tZ x).val
def Fm (x):=(tZ x).ok
noncomputable def G4:aN:={t:=72,lf:=2,te:=42,ce:=aP,st:=(.st bw (.st (.int .i64) (.st .a8 (.st (.int .u64) (.st aj (.st aj (.st aj (.a7 aj)))))))),arg:=(.st aj (.st aj (.a7 aj))),bG:=(.st aj (.a7 aj)),n:=2,pos:=0,box:=false,pre:=Fm,f:=fun x=>(nw x).1,g:=fun x=>(nw x).2}
theorem TU:aZ aT 122 G4:=dI Tryz.f122 [(9,gn)] ⟨xy,trivial⟩ tZ [(45,eP),(164,G1),(165,G0),(166,GZ)] ⟨gI,TR,TQ,TP,trivial⟩ true
noncomputable def tY (x:V6):Tr eZ:=
 let y0:(Int×gT):=x.2.2
 let y1:Int:=y0.1
 .aa (dU y1)<|
 .aa ((0:Nat) < 3)<|
 .aa ((1:Nat) < 3)<|
 .aa ((2:Nat) < 3)<|
 let y2:aC:=x.2.1
 let y3:Nat:=y2.length
 .aa ((y3:Nat)=y3)<|
 let y4:dY:=x.1.2
 let y5:bq:=(x.1.1,(y4.1,((),y4.2.2)))
 let y6:gT:=y0.2
 let y7:tF:=(y5,(y2,(26,(8,(y1,[y6.1,(fZ y1),y6.2])))))
 .aa (dP y7)<|
 let y8:aC:=(fM y7).1
 let y9:Nat:=y8.length
 .aa ((y9:Nat)=y9)<|
 .aa (y5=x.1)<|
 .ret (y8,())
noncomputable def jg (x):=(tY x).val
def gV (x):=(tY x).ok
noncomputable def G3:aN:={t:=72,lf:=2,te:=42,ce:=aP,st:=(.st bw (.st (.int .i64) (.st .a8 (.st (.int .u64) (.st aj (.st aj (.st aj (.a7 aj)))))))),arg:=(.st (.int .i64) (.st aj (.a7 (.ref aj)))),bG:=.unit,n:=0,pos:=2,box:=true,pre:=gV,f:=fun x=>(jg x).1,g:=fun x=>(jg x).2}
theorem TT:aZ aT 123 G3:=dI Tryz.f123 [(12,gU)] ⟨qP,trivial⟩ tY [(28,jt)] ⟨nr,trivial⟩ true
noncomputable def uo (x:V3):Tr eZ:=
 let y0:aC:=x.2.1
 let y1:Nat:=y0.length
 .aa ((y1:Nat)=y1)<|
 let y2:DI:=x.1.1
 let y3:dY:=x.1.2
 let y4:Int:=y3.1
 let y5:o6:=y3.2.2
 let y6:bq:=(y2,(y4,((),y5)))
 let y7:B1:=y2.2.2.2
 let y8:pQ:=(y6,(y0,(y7.1,(y5.2.1,y4))))
 .aa (j9 y8)<|
 let y9:Int:=(af .u64 (cX .i64 8 y4))
 .aa ((y9:Int)≠0)<|
 let y10:DO:=y7.2.1
 let y11:Int:=(pf .u64 (af .u64 y10.2.2.2.2.2.2.2) y9)
 .aa (dj y11)<|
 .ite (ae y10.1 1) (
 .aa (dU 1)<|
 let y12:Int:=(eG .u64 y9 1)
 .aa (dj y12)<|
 .aa ((0:Nat) < 2)<|
 .aa ((1:Nat) < 2)<|
 let y13:=(fY y8).1
 let y14:Nat:=y13.length
 .aa ((y14:Nat)=y14)<|
 let y15:iC:=(y6,(y13,(8,(1,[(fZ 1),(fg y12)]))))
 .aa (bC y15)<|
 .aa (dj 0)<|
 let y16:=(aR y15).2
 .ite (kq aj y16 (fg 0)) (
 .aa ((0:Nat) < 1)<|
 let y17:=(aR y15).1
 let y18:Nat:=y17.length
 .aa ((y18:Nat)=y18)<|
 let y19:=(fY y8).2
 let y20:xD:=(1,(y4,[y19]))
 let y21:iC:=(y6,(y17,y20))
 .aa (bC y21)<|
 let y22:=(aR y21).1
 let y23:Nat:=y22.length
 .aa ((y23:Nat)=y23)<|
 let y24:gm:=(y6,(y22,(aR y21).2))
 .aa (ke y24)<|
 let y25:=(kL y24).1
 let y26:Nat:=y25.length
 .aa ((y26:Nat)=y26)<|
 .aa (y6=x.1)<|
 .ret (y25,())) (
 .aa ((0:Nat) < 2)<|
 .aa ((1:Nat) < 2)<|
 let y27:=(aR y15).1
 let y28:Nat:=y27.length
 .aa ((y28:Nat)=y28)<|
 let y29:=x.2.2
 let y30:=(fY y8).2
 let y31:iC:=(y6,(y27,(y29,(y4,[y30,y16]))))
 .aa (bC y31)<|
 let y32:=(aR y31).1
 let y33:Nat:=y32.length
 .aa ((y33:Nat)=y33)<|
 let y34:=(aR y31).2
 let y35:V2:=(y6,(y32,(y30,(y34,y16))))
 .aa (Fm y35)<|
 let y36:=(nw y35).1
 let y37:Nat:=y36.length
 .aa ((y37:Nat)=y37)<|
 let y38:gm:=(y6,(y36,y34))
 .aa (ke y38)<|
 let y39:=((cB y29 14)==true)
 .ite y39 (
 let y40:=y16.1
 .ite y40 (
 let y41:=(kL y38).1
 let y42:Nat:=y41.length
 .aa ((y42:Nat)=y42)<|
 let y43:=(nw y35).2
 let y44:tJ:=(y6,(y41,y43))
 .aa (kI y44)<|
 let y45:=(cB y29 15)
 .ite y45 (
 let y46:=(lH y44).1
 let y47:Nat:=y46.length
 .aa ((y47:Nat)=y47)<|
 let y48:gm:=(y6,(y46,y34))
 .aa (lV y48)<|
 let y49:=(ow y48).1
 let y50:Nat:=y49.length
 .aa ((y50:Nat)=y50)<|
 .aa (y6=x.1)<|
 .ret (y49,())) (
 let y51:=(lH y44).1
 let y52:Nat:=y51.length
 .aa ((y52:Nat)=y52)<|
 .aa (y6=x.1)<|
 let y53:Ae:=(y51,())
 .ret y53)) (
 let y54:=(kL y38).1
 let y55:Nat:=y54.length
 .aa ((y55:Nat)=y55)<|
 let y56:=(nw y35).2
 let y57:jn:=(y6,(y54,(16,(y56.1,y16))))
 .aa (gV y57)<|
 let y58:=(jg y57).1
 let y59:Nat:=y58.length
 .aa ((y59:Nat)=y59)<|
 let y60:jn:=(y6,(y58,(19,(y56.2,y16))))
 .aa (gV y60)<|
 let y61:=(cB y29 15)
 .ite y61 (
 .aa ((0:Nat) < 1)<|
 let y62:=(jg y60).1
 let y63:Nat:=y62.length
 .aa ((y63:Nat)=y63)<|
 let y64:pP:=(y4,[y34])
 let y65:iC:=(y6,(y62,(22,y64)))
 .aa (bC y65)<|
 .aa ((0:Nat) < 1)<|
 let y66:=(aR y65).1
 let y67:Nat:=y66.length
 .aa ((y67:Nat)=y67)<|
 let y68:iC:=(y6,(y66,(23,y64)))
 .aa (bC y68)<|
 .aa ((0:Nat) < 1)<|
 let y69:=(aR y68).1
 let y70:Nat:=y69.length
 .aa ((y70:Nat)=y70)<|
 let y71:iC:=(y6,(y69,(24,y64)))
 .aa (bC y71)<|
 let y72:=(aR y71).1
 let y73:Nat:=y72.length
 .aa ((y73:Nat)=y73)<|
 let y74:jn:=(y6,(y72,(17,((aR y65).2,y16))))
 .aa (gV y74)<|
 let y75:=(jg y74).1
 let y76:Nat:=y75.length
 .aa ((y76:Nat)=y76)<|
 let y77:jn:=(y6,(y75,(18,((aR y68).2,y16))))
 .aa (gV y77)<|
 let y78:=(jg y77).1
 let y79:Nat:=y78.length
 .aa ((y79:Nat)=y79)<|
 let y80:jn:=(y6,(y78,(20,((aR y71).2,y16))))
 .aa (gV y80)<|
 let y81:=(jg y80).1
 let y82:Nat:=y81.length
 .aa ((y82:Nat)=y82)<|
 .aa (y6=x.1)<|
 .ret (y81,())) (
 let y83:=(jg y60).1
 let y84:Nat:=y83.length
 .aa ((y84:Nat)=y84)<|
 .aa (y6=x.1)<|
 let y85:Ae:=(y83,())
 .ret y85))) (
 let y86:=y16.1
 .ite y86 (
 let y87:=(kL y38).1
 let y88:Nat:=y87.length
 .aa ((y88:Nat)=y88)<|
 let y89:=(nw y35).2
 let y90:tJ:=(y6,(y87,y89))
 .aa (kI y90)<|
 let y91:=(lH y90).1
 let y92:Nat:=y91.length
 .aa ((y92:Nat)=y92)<|
 .aa (y6=x.1)<|
 let y93:Ae:=(y91,())
 .ret y93) (
 let y94:=(kL y38).1
 let y95:Nat:=y94.length
 .aa ((y95:Nat)=y95)<|
 let y96:=(nw y35).2
 let y97:jn:=(y6,(y94,(16,(y96.1,y16))))
 .aa (gV y97)<|
 let y98:=(jg y97).1
 let y99:Nat:=y98.length
 .aa ((y99:Nat)=y99)<|
 let y100:jn:=(y6,(y98,(19,(y96.2,y16))))
 .aa (gV y100)<|
 let y101:=(jg y100).1
 let y102:Nat:=y101.length
 .aa ((y102:Nat)=y102)<|
 .aa (y6=x.1)<|
 let y103:Ae:=(y101,())
 .ret y103)))) (
 .aa (dj 0)<|
 let y104:=(fg y11)
 .ite (kq aj y104 (fg 0)) (
 .aa ((0:Nat) < 1)<|
 let y105:=(fY y8).1
 let y106:Nat:=y105.length
 .aa ((y106:Nat)=y106)<|
 let y107:=(fY y8).2
 let y108:xD:=(1,(y4,[y107]))
 let y109:iC:=(y6,(y105,y108))
 .aa (bC y109)<|
 let y110:=(aR y109).1
 let y111:Nat:=y110.length
 .aa ((y111:Nat)=y111)<|
 let y112:gm:=(y6,(y110,(aR y109).2))
 .aa (ke y112)<|
 let y113:=(kL y112).1
 let y114:Nat:=y113.length
 .aa ((y114:Nat)=y114)<|
 .aa (y6=x.1)<|
 .ret (y113,())) (
 .aa ((0:Nat) < 2)<|
 .aa ((1:Nat) < 2)<|
 let y115:=(fY y8).1
 let y116:Nat:=y115.length
 .aa ((y116:Nat)=y116)<|
 let y117:=x.2.2
 let y118:=(fY y8).2
 let y119:iC:=(y6,(y115,(y117,(y4,[y118,y104]))))
 .aa (bC y119)<|
 let y120:=(aR y119).1
 let y121:Nat:=y120.length
 .aa ((y121:Nat)=y121)<|
 let y122:=(aR y119).2
 let y123:V2:=(y6,(y120,(y118,(y122,y104))))
 .aa (Fm y123)<|
 let y124:=(nw y123).1
 let y125:Nat:=y124.length
 .aa ((y125:Nat)=y125)<|
 let y126:gm:=(y6,(y124,y122))
 .aa (ke y126)<|
 let y127:=((cB y117 14)==true)
 .ite y127 (
 let y128:=y104.1
 .ite y128 (
 let y129:=(kL y126).1
 let y130:Nat:=y129.length
 .aa ((y130:Nat)=y130)<|
 let y131:=(nw y123).2
 let y132:tJ:=(y6,(y129,y131))
 .aa (kI y132)<|
 let y133:=(cB y117 15)
 .ite y133 (
 let y134:=(lH y132).1
 let y135:Nat:=y134.length
 .aa ((y135:Nat)=y135)<|
 let y136:gm:=(y6,(y134,y122))
 .aa (lV y136)<|
 let y137:=(ow y136).1
 let y138:Nat:=y137.length
 .aa ((y138:Nat)=y138)<|
 .aa (y6=x.1)<|
 .ret (y137,())) (
 let y139:=(lH y132).1
 let y140:Nat:=y139.length
 .aa ((y140:Nat)=y140)<|
 .aa (y6=x.1)<|
 let y141:Ae:=(y139,())
 .ret y141)) (
 let y142:=(kL y126).1
 let y143:Nat:=y142.length
 .aa ((y143:Nat)=y143)<|
 let y144:=(nw y123).2
 let y145:jn:=(y6,(y142,(16,(y144.1,y104))))
 .aa (gV y145)<|
 let y146:=(jg y145).1
 let y147:Nat:=y146.length
 .aa ((y147:Nat)=y147)<|
 let y148:jn:=(y6,(y146,(19,(y144.2,y104))))
 .aa (gV y148)<|
 let y149:=(cB y117 15)
 .ite y149 (
 .aa ((0:Nat) < 1)<|
 let y150:=(jg y148).1
 let y151:Nat:=y150.length
 .aa ((y151:Nat)=y151)<|
 let y152:pP:=(y4,[y122])
 let y153:iC:=(y6,(y150,(22,y152)))
 .aa (bC y153)<|
 .aa ((0:Nat) < 1)<|
 let y154:=(aR y153).1
 let y155:Nat:=y154.length
 .aa ((y155:Nat)=y155)<|
 let y156:iC:=(y6,(y154,(23,y152)))
 .aa (bC y156)<|
 .aa ((0:Nat) < 1)<|
 let y157:=(aR y156).1
 let y158:Nat:=y157.length
 .aa ((y158:Nat)=y158)<|
 let y159:iC:=(y6,(y157,(24,y152)))
 .aa (bC y159)<|
 let y160:=(aR y159).1
 let y161:Nat:=y160.length
 .aa ((y161:Nat)=y161)<|
 let y162:jn:=(y6,(y160,(17,((aR y153).2,y104))))
 .aa (gV y162)<|
 let y163:=(jg y162).1
 let y164:Nat:=y163.length
 .aa ((y164:Nat)=y164)<|
 let y165:jn:=(y6,(y163,(18,((aR y156).2,y104))))
 .aa (gV y165)<|
 let y166:=(jg y165).1
 let y167:Nat:=y166.length
 .aa ((y167:Nat)=y167)<|
 let y168:jn:=(y6,(y166,(20,((aR y159).2,y104))))
 .aa (gV y168)<|
 let y169:=(jg y168).1
 let y170:Nat:=y169.length
 .aa ((y170:Nat)=y170)<|
 .aa (y6=x.1)<|
 .ret (y169,())) (
 let y171:=(jg y148).1
 let y172:Nat:=y171.length
 .aa ((y172:Nat)=y172)<|
 .aa (y6=x.1)<|
 let y173:Ae:=(y171,())
 .ret y173))) (
 let y174:=y104.1
 .ite y174 (
 let y175:=(kL y126).1
 let y176:Nat:=y175.length
 .aa ((y176:Nat)=y176)<|
 let y177:=(nw y123).2
 let y178:tJ:=(y6,(y175,y177))
 .aa (kI y178)<|
 let y179:=(lH y178).1
 let y180:Nat:=y179.length
 .aa ((y180:Nat)=y180)<|
 .aa (y6=x.1)<|
 let y181:Ae:=(y179,())
 .ret y181) (
 let y182:=(kL y126).1
 let y183:Nat:=y182.length
 .aa ((y183:Nat)=y183)<|
 let y184:=(nw y123).2
 let y185:jn:=(y6,(y182,(16,(y184.1,y104))))
 .aa (gV y185)<|
 let y186:=(jg y185).1
 let y187:Nat:=y186.length
 .aa ((y187:Nat)=y187)<|
 let y188:jn:=(y6,(y186,(19,(y184.2,y104))))
 .aa (gV y188)<|
 let y189:=(jg y188).1
 let y190:Nat:=y189.length
 .aa ((y190:Nat)=y190)<|
 .aa (y6=x.1)<|
 let y191:Ae:=(y189,())
 .ret y191))))
noncomputable def wT (x):=(uo x).val
def sj (x):=(uo x).ok
noncomputable def oT:aN:={t:=72,lf:=2,te:=42,ce:=aP,st:=(.st bw (.st (.int .i64) (.st .a8 (.st (.int .u64) (.st aj (.st aj (.st aj (.a7 aj)))))))),arg:=(.a7 (.int .u8)),bG:=.unit,n:=0,pos:=0,box:=false,pre:=sj,f:=fun x=>(wT x).1,g:=fun x=>(wT x).2}
theorem wj:aZ aT 104 oT:=dI Tryz.f104 [(9,gn),(12,gU)] ⟨xy,qP,trivial⟩ uo [(45,eP),(97,jr),(98,iM),(106,oS),(107,mV),(122,G4),(123,G3)] ⟨gI,nq,mc,wi,sk,TU,TT,trivial⟩ true
noncomputable def zD (x:gG):Tr eZ:=
 let y0:aC:=x.2.1
 let y1:Nat:=y0.length
 .aa ((y1:Nat)=y1)<|
 let y2:dY:=x.1.2
 let y3:bq:=(x.1.1,(y2.1,((),y2.2.2)))
 let y4:B5:=(y3,(y0,11))
 .aa (sj y4)<|
 let y5:aC:=(wT y4).1
 let y6:Nat:=y5.length
 .aa ((y6:Nat)=y6)<|
 .aa (y3=x.1)<|
 .ret (y5,())
noncomputable def U7 (x):=(zD x).val
def Su (x):=(zD x).ok
noncomputable def LY:aN:={t:=72,lf:=2,te:=42,ce:=aP,st:=(.st bw (.st (.int .i64) (.st .a8 (.st (.int .u64) (.st aj (.st aj (.st aj (.a7 aj)))))))),arg:=.unit,bG:=.unit,n:=0,pos:=0,box:=false,pre:=Su,f:=fun x=>(U7 x).1,g:=fun x=>(U7 x).2}
theorem Xc:aZ aT 60 LY:=dI Tryz.f60 [] trivial zD [(104,oT)] ⟨wj,trivial⟩ true
noncomputable def zC (x:gG):Tr eZ:=
 let y0:aC:=x.2.1
 let y1:Nat:=y0.length
 .aa ((y1:Nat)=y1)<|
 let y2:dY:=x.1.2
 let y3:bq:=(x.1.1,(y2.1,((),y2.2.2)))
 let y4:B5:=(y3,(y0,12))
 .aa (sj y4)<|
 let y5:aC:=(wT y4).1
 let y6:Nat:=y5.length
 .aa ((y6:Nat)=y6)<|
 .aa (y3=x.1)<|
 .ret (y5,())
noncomputable def U6 (x):=(zC x).val
def Ss (x):=(zC x).ok
noncomputable def LX:aN:={t:=72,lf:=2,te:=42,ce:=aP,st:=(.st bw (.st (.int .i64) (.st .a8 (.st (.int .u64) (.st aj (.st aj (.st aj (.a7 aj)))))))),arg:=.unit,bG:=.unit,n:=0,pos:=0,box:=false,pre:=Ss,f:=fun x=>(U6 x).1,g:=fun x=>(U6 x).2}
theorem Xb:aZ aT 61 LX:=dI Tryz.f61 [] trivial zC [(104,oT)] ⟨wj,trivial⟩ true
noncomputable def zB (x:gG):Tr eZ:=
 let y0:aC:=x.2.1
 let y1:Nat:=y0.length
 .aa ((y1:Nat)=y1)<|
 let y2:dY:=x.1.2
 let y3:bq:=(x.1.1,(y2.1,((),y2.2.2)))
 let y4:B5:=(y3,(y0,13))
 .aa (sj y4)<|
 let y5:aC:=(wT y4).1
 let y6:Nat:=y5.length
 .aa ((y6:Nat)=y6)<|
 .aa (y3=x.1)<|
 .ret (y5,())
noncomputable def U5 (x):=(zB x).val
def Sr (x):=(zB x).ok
noncomputable def LV:aN:={t:=72,lf:=2,te:=42,ce:=aP,st:=(.st bw (.st (.int .i64) (.st .a8 (.st (.int .u64) (.st aj (.st aj (.st aj (.a7 aj)))))))),arg:=.unit,bG:=.unit,n:=0,pos:=0,box:=false,pre:=Sr,f:=fun x=>(U5 x).1,g:=fun x=>(U5 x).2}
theorem Xa:aZ aT 62 LV:=dI Tryz.f62 [] trivial zB [(104,oT)] ⟨wj,trivial⟩ true
noncomputable def zA (x:gG):Tr eZ:=
 let y0:aC:=x.2.1
 let y1:Nat:=y0.length
 .aa ((y1:Nat)=y1)<|
 let y2:dY:=x.1.2
 let y3:bq:=(x.1.1,(y2.1,((),y2.2.2)))
 let y4:B5:=(y3,(y0,14))
 .aa (sj y4)<|
 let y5:aC:=(wT y4).1
 let y6:Nat:=y5.length
 .aa ((y6:Nat)=y6)<|
 .aa (y3=x.1)<|
 .ret (y5,())
noncomputable def U4 (x):=(zA x).val
def Sq (x):=(zA x).ok
noncomputable def LU:aN:={t:=72,lf:=2,te:=42,ce:=aP,st:=(.st bw (.st (.int .i64) (.st .a8 (.st (.int .u64) (.st aj (.st aj (.st aj (.a7 aj)))))))),arg:=.unit,bG:=.unit,n:=0,pos:=0,box:=false,pre:=Sq,f:=fun x=>(U4 x).1,g:=fun x=>(U4 x).2}
theorem W9:aZ aT 63 LU:=dI Tryz.f63 [] trivial zA [(104,oT)] ⟨wj,trivial⟩ true
noncomputable def zy (x:gG):Tr eZ:=
 let y0:aC:=x.2.1
 let y1:Nat:=y0.length
 .aa ((y1:Nat)=y1)<|
 let y2:dY:=x.1.2
 let y3:bq:=(x.1.1,(y2.1,((),y2.2.2)))
 let y4:B5:=(y3,(y0,15))
 .aa (sj y4)<|
 let y5:aC:=(wT y4).1
 let y6:Nat:=y5.length
 .aa ((y6:Nat)=y6)<|
 .aa (y3=x.1)<|
 .ret (y5,())
noncomputable def U3 (x):=(zy x).val
def Sp (x):=(zy x).ok
noncomputable def LS:aN:={t:=72,lf:=2,te:=42,ce:=aP,st:=(.st bw (.st (.int .i64) (.st .a8 (.st (.int .u64) (.st aj (.st aj (.st aj (.a7 aj)))))))),arg:=.unit,bG:=.unit,n:=0,pos:=0,box:=false,pre:=Sp,f:=fun x=>(U3 x).1,g:=fun x=>(U3 x).2}
theorem W8:aZ aT 64 LS:=dI Tryz.f64 [] trivial zy [(104,oT)] ⟨wj,trivial⟩ true
end Go.aA.RV
end
