/- A part of the proof that the laws of this seat hold. Conditions: none beyond the row. -/
import Derived.Test.YtifnanjnonepaaaGreatDoorEng2
import Derived.Test.YtifnanjnonepaaaGreatDoorProg
import Derived.KernelRfl
import Derived.Lib.LaidTab
import Derived.Stop.LaidErr
set_option maxRecDepth 100000
set_option linter.unusedVariables false
set_option linter.unusedSimpArgs false
set_option linter.unusedSectionVars false
section
namespace Go.bM.RL
open Go.Proofs Go.bM
@[reducible] def iF:TC:=(.st .str (.bp (.int .u64)))
@[reducible] def aq:TC:=(.st .bool (.st (.int .i64) (.bp (.int .u64))))
abbrev aD:Type:=(Bool×(Int×Int))
@[reducible] def oH:TC:=(.st (.int .i64) (.st (.int .i64) (.st .bool (.bp (.int .u8)))))
@[reducible] def CO:TC:=(.st (.int .u8) (.st (.int .i64) (.st (.int .i64) (.st (.int .i64) (.st (.int .i64) (.st (.int .i64) (.st .bool (.bp (.int .i64)))))))))
abbrev DO:Type:=(Int×(Int×(Int×(Int×(Int×(Int×(Bool×Int)))))))
@[reducible] def KS:TC:=(.st (.slice (.int .i64)) (.st (.slice (.int .i64)) (.st (.slice (.int .i64)) (.st (.int .u8) (.st (.int .u8) (.st (.int .i64) (.st (.int .i64) (.bp .bool))))))))
@[reducible] def vO:TC:=(.st (.int .i64) (.st .str (.st .str (.st (.int .u8) (.st (.slice (.int .u8)) (.st (.int .i64) (.st (.int .i64) (.bp (.int .i64)))))))))
abbrev kI:Type:=(Int×(ByteArray×(ByteArray×(Int×((List Int)×(Int×(Int×Int)))))))
@[reducible] def bB:TC:=(.st (.int .u8) (.st (.int .u8) (.st (.int .i64) (.st CO (.st CO (.st (.int .u8) (.bp (.int .i64))))))))
abbrev DI:Type:=(Int×(Int×(Int×(DO×(DO×(Int×Int))))))
@[reducible] def aR:TC:=(.st (.int .u8) (.st (.int .i64) (.st (.int .i64) (.st aq (.st aq (.st aq (.bp bB)))))))
abbrev bq:Type:=(Int×(Int×(Int×(aD×(aD×(aD×DI))))))
abbrev dH:Type:=DI×Int
abbrev ao:Type:=List Int
abbrev gO:Type:=List kI
abbrev bN:Type:=Int×Int
abbrev an:Type:=List bq
abbrev cC:Type:=Int×Unit
abbrev cW:Type:=aD×aD
abbrev xp:Type:=DO×ByteArray
abbrev Ak:Type:=List bN
abbrev ew:Type:=List bq×Int
abbrev bF:Type:=ao×Int
abbrev eE:Type:=DO×bN
abbrev fD:Type:=List bq×aD
abbrev bu:Type:=List bq×Unit
abbrev kT:Type:=Int×(List aD)
abbrev bA:Type:=Int×bN
abbrev nC:Type:=an×Int
abbrev dN:Type:=Bool×bN
abbrev xq:Type:=an×Unit
abbrev xr:Type:=an×aD
abbrev xt:Type:=aD×cW
abbrev eo:Type:=DO×eE
abbrev Gd:Type:=List dN
abbrev vQ:Type:=Int×kT
abbrev cj:Type:=ao×cC
abbrev CB:Type:=List bq×cW
abbrev qU:Type:=an×an
abbrev eH:Type:=Int×eo
abbrev eU:Type:=Int×vQ
abbrev ep:Type:=dN×cW
abbrev mG:Type:=Int×(aD×xt)
abbrev dU:Type:=Int×(Unit×mG)
abbrev CC:Type:=Int×(Int×(Int×(Int×(Int×(Int×(Bool×Int))))))
abbrev bl:Type:=DI×dU
abbrev KY:Type:=bl×(List bq×DO)
abbrev Al:Type:=bl×ew
abbrev Am:Type:=(Int×(ByteArray×(ByteArray×(Int×(ao×bA)))))×Bool
abbrev br:Type:=bl×bu
abbrev jT:Type:=bl×fD
abbrev An:Type:=bl×nC
abbrev dX:Type:=bl×xq
abbrev fo:Type:=bl×xr
abbrev ck:Type:=cj×((Unit×(Unit×(ao×bA)))×Bool)
abbrev KZ:Type:=bl×(List bq×bN)
abbrev Qs:Type:=bl×(an×bN)
abbrev Ao:Type:=bl×CB
abbrev qV:Type:=bl×(an×cW)
abbrev K0:Type:=bl×(List bq×(ao×aD))
abbrev K1:Type:=bl×(List bq×(DO×(aD×Int)))
abbrev eF:Type:=(DI×(Int×(Unit×(Int×(aD×ep)))))×(an×DO)
abbrev Ap:Type:=bl×(List bq×(Int×cW))
abbrev K2:Type:=bl×(an×(ao×aD))
abbrev m0:Type:=bl×(an×(DO×(aD×Int)))
abbrev Aq:Type:=bl×(List bq×xt)
abbrev gP:Type:=bl×(an×(Int×cW))
abbrev Iv:Type:=bl×(an×xt)
abbrev Mw:Type:=bl×(List bq×vQ)
abbrev TV:Type:=bl×(List bq×(DO×(aD×(Int×aD))))
abbrev gg:Type:=bl×(an×vQ)
abbrev UY:Type:=bl×(an×(DO×(aD×(Int×aD))))
abbrev TW:Type:=bl×(List bq×eU)
abbrev kd:Type:=(DI×(Int×(Unit×(Int×(dN×ep)))))×(an×DO)
abbrev TX:Type:=bl×(List bq×(ao×xt))
abbrev gj:Type:=bl×(an×eU)
abbrev UZ:Type:=bl×(an×(ao×xt))
abbrev U0:Type:=(Int×(Int×(Int×(CC×(CC×bN)))))×Int
@[reducible] def F8:TC:=(.st bB (.st (.int .i64) (.st (.slice aR) (.st (.int .u64) (.st aq (.st aq (.st aq (.bp aq))))))))
noncomputable def ty:TypeId→Option bD
 | 1=>some {desc:=Tryz.t1.desc,size:=1,bytes:=8,zero:=(.raw .nilFunc),code:=none}
 | 2=>some {desc:=(.int .i64),size:=1,bytes:=8,zero:=(.int .i64 0),code:=(some (.int .i64))}
 | 3=>some {desc:=(.int .i64),size:=1,bytes:=8,zero:=(.int .i64 0),code:=(some (.int .i64))}
 | 4=>some {desc:=.bool,size:=1,bytes:=1,zero:=(.bool false),code:=(some .bool)}
 | 5=>some {desc:=(.int .u8),size:=1,bytes:=1,zero:=(.int .u8 0),code:=(some (.int .u8))}
 | 6=>some {desc:=(.int .u8),size:=1,bytes:=1,zero:=(.int .u8 0),code:=(some (.int .u8))}
 | 7=>some {desc:=Tryz.t7.desc,size:=4,bytes:=24,zero:=(.agg [1,1,1,1] [(.int .i64 0),(.int .i64 0),(.bool false),(.int .u8 0)]),code:=(some oH)}
 | 8=>some {desc:=Tryz.t7.desc,size:=4,bytes:=24,zero:=(.agg [1,1,1,1] [(.int .i64 0),(.int .i64 0),(.bool false),(.int .u8 0)]),code:=(some oH)}
 | 9=>some {desc:=.string,size:=1,bytes:=16,zero:=(.str ByteArray.empty),code:=(some .str)}
 | 10=>some {desc:=.string,size:=1,bytes:=16,zero:=(.str ByteArray.empty),code:=(some .str)}
 | 11=>some {desc:=.string,size:=1,bytes:=16,zero:=(.str ByteArray.empty),code:=(some .str)}
 | 12=>some {desc:=(.int .u64),size:=1,bytes:=8,zero:=(.int .u64 0),code:=(some (.int .u64))}
 | 13=>some {desc:=Tryz.t13.desc,size:=2,bytes:=24,zero:=(.agg [1,1] [(.str ByteArray.empty),(.int .u64 0)]),code:=(some iF)}
 | 14=>some {desc:=Tryz.t13.desc,size:=2,bytes:=24,zero:=(.agg [1,1] [(.str ByteArray.empty),(.int .u64 0)]),code:=(some iF)}
 | 15=>some {desc:=(.pointer 149),size:=1,bytes:=8,zero:=(.raw (.pointer none)),code:=none}
 | 16=>some {desc:=(.pointer 152),size:=1,bytes:=8,zero:=(.raw (.pointer none)),code:=none}
 | 17=>some {desc:=(.pointer 161),size:=1,bytes:=8,zero:=(.raw (.pointer none)),code:=none}
 | 18=>some {desc:=Tryz.t18.desc,size:=1,bytes:=8,zero:=(.agg [1] [(.raw (.pointer none))]),code:=none}
 | 19=>some {desc:=Tryz.t18.desc,size:=1,bytes:=8,zero:=(.agg [1] [(.raw (.pointer none))]),code:=none}
 | 20=>some {desc:=Tryz.t20.desc,size:=1,bytes:=16,zero:=(.raw .nilIface),code:=none}
 | 21=>some {desc:=(.int .i32),size:=1,bytes:=4,zero:=(.int .i32 0),code:=(some (.int .i32))}
 | 22=>some {desc:=Tryz.t22.desc,size:=8,bytes:=64,zero:=(.agg [1,1,1,1,1,1,1,1] [(.int .u8 0),(.int .i64 0),(.int .i64 0),(.int .i64 0),(.int .i64 0),(.int .i64 0),(.bool false),(.int .i64 0)]),code:=(some CO)}
 | 23=>some {desc:=Tryz.t22.desc,size:=8,bytes:=64,zero:=(.agg [1,1,1,1,1,1,1,1] [(.int .u8 0),(.int .i64 0),(.int .i64 0),(.int .i64 0),(.int .i64 0),(.int .i64 0),(.bool false),(.int .i64 0)]),code:=(some CO)}
 | 24=>some {desc:=Tryz.t24.desc,size:=21,bytes:=160,zero:=(.agg [1,1,1,8,8,1,1] [(.int .u8 0),(.int .u8 0),(.int .i64 0),(.agg [1,1,1,1,1,1,1,1] [(.int .u8 0),(.int .i64 0),(.int .i64 0),(.int .i64 0),(.int .i64 0),(.int .i64 0),(.bool false),(.int .i64 0)]),(.agg [1,1,1,1,1,1,1,1] [(.int .u8 0),(.int .i64 0),(.int .i64 0),(.int .i64 0),(.int .i64 0),(.int .i64 0),(.bool false),(.int .i64 0)]),(.int .u8 0),(.int .i64 0)]),code:=(some bB)}
 | 25=>some {desc:=Tryz.t24.desc,size:=21,bytes:=160,zero:=(.agg [1,1,1,8,8,1,1] [(.int .u8 0),(.int .u8 0),(.int .i64 0),(.agg [1,1,1,1,1,1,1,1] [(.int .u8 0),(.int .i64 0),(.int .i64 0),(.int .i64 0),(.int .i64 0),(.int .i64 0),(.bool false),(.int .i64 0)]),(.agg [1,1,1,1,1,1,1,1] [(.int .u8 0),(.int .i64 0),(.int .i64 0),(.int .i64 0),(.int .i64 0),(.int .i64 0),(.bool false),(.int .i64 0)]),(.int .u8 0),(.int .i64 0)]),code:=(some bB)}
 | 26=>some {desc:=(.int .u64),size:=1,bytes:=8,zero:=(.int .u64 0),code:=(some (.int .u64))}
 | 27=>some {desc:=(.slice 38),size:=1,bytes:=24,zero:=(.raw (.slice none 0 0)),code:=(some (.slice aR))}
 | 28=>some {desc:=(.int .i64),size:=1,bytes:=8,zero:=(.int .i64 0),code:=(some (.int .i64))}
 | 30=>some {desc:=Tryz.t30.desc,size:=1,bytes:=8,zero:=(.raw .nilFunc),code:=none}
 | 31=>some {desc:=Tryz.t31.desc,size:=1,bytes:=8,zero:=(.raw .nilFunc),code:=none}
 | 32=>some {desc:=Tryz.t32.desc,size:=1,bytes:=8,zero:=(.raw .nilFunc),code:=none}
 | 33=>some {desc:=Tryz.t33.desc,size:=1,bytes:=8,zero:=(.raw .nilFunc),code:=none}
 | 34=>some {desc:=Tryz.t34.desc,size:=1,bytes:=8,zero:=(.raw .nilFunc),code:=none}
 | 35=>some {desc:=Tryz.t35.desc,size:=3,bytes:=24,zero:=(.agg [1,1,1] [(.bool false),(.int .i64 0),(.int .u64 0)]),code:=(some aq)}
 | 36=>some {desc:=Tryz.t35.desc,size:=3,bytes:=24,zero:=(.agg [1,1,1] [(.bool false),(.int .i64 0),(.int .u64 0)]),code:=(some aq)}
 | 37=>some {desc:=Tryz.t37.desc,size:=33,bytes:=256,zero:=(.agg [1,1,1,3,3,3,21] [(.int .u8 0),(.int .i64 0),(.int .i64 0),(.agg [1,1,1] [(.bool false),(.int .i64 0),(.int .u64 0)]),(.agg [1,1,1] [(.bool false),(.int .i64 0),(.int .u64 0)]),(.agg [1,1,1] [(.bool false),(.int .i64 0),(.int .u64 0)]),(.agg [1,1,1,8,8,1,1] [(.int .u8 0),(.int .u8 0),(.int .i64 0),(.agg [1,1,1,1,1,1,1,1] [(.int .u8 0),(.int .i64 0),(.int .i64 0),(.int .i64 0),(.int .i64 0),(.int .i64 0),(.bool false),(.int .i64 0)]),(.agg [1,1,1,1,1,1,1,1] [(.int .u8 0),(.int .i64 0),(.int .i64 0),(.int .i64 0),(.int .i64 0),(.int .i64 0),(.bool false),(.int .i64 0)]),(.int .u8 0),(.int .i64 0)])]),code:=(some aR)}
 | 38=>some {desc:=Tryz.t37.desc,size:=33,bytes:=256,zero:=(.agg [1,1,1,3,3,3,21] [(.int .u8 0),(.int .i64 0),(.int .i64 0),(.agg [1,1,1] [(.bool false),(.int .i64 0),(.int .u64 0)]),(.agg [1,1,1] [(.bool false),(.int .i64 0),(.int .u64 0)]),(.agg [1,1,1] [(.bool false),(.int .i64 0),(.int .u64 0)]),(.agg [1,1,1,8,8,1,1] [(.int .u8 0),(.int .u8 0),(.int .i64 0),(.agg [1,1,1,1,1,1,1,1] [(.int .u8 0),(.int .i64 0),(.int .i64 0),(.int .i64 0),(.int .i64 0),(.int .i64 0),(.bool false),(.int .i64 0)]),(.agg [1,1,1,1,1,1,1,1] [(.int .u8 0),(.int .i64 0),(.int .i64 0),(.int .i64 0),(.int .i64 0),(.int .i64 0),(.bool false),(.int .i64 0)]),(.int .u8 0),(.int .i64 0)])]),code:=(some aR)}
 | 39=>some {desc:=Tryz.t39.desc,size:=1,bytes:=8,zero:=(.raw .nilFunc),code:=none}
 | 40=>some {desc:=Tryz.t40.desc,size:=1,bytes:=8,zero:=(.raw .nilFunc),code:=none}
 | 41=>some {desc:=(.slice 3),size:=1,bytes:=24,zero:=(.raw (.slice none 0 0)),code:=(some (.slice (.int .i64)))}
 | 42=>some {desc:=Tryz.t42.desc,size:=8,bytes:=104,zero:=(.agg [1,1,1,1,1,1,1,1] [(.raw (.slice none 0 0)),(.raw (.slice none 0 0)),(.raw (.slice none 0 0)),(.int .u8 0),(.int .u8 0),(.int .i64 0),(.int .i64 0),(.bool false)]),code:=(some KS)}
 | 43=>some {desc:=Tryz.t42.desc,size:=8,bytes:=104,zero:=(.agg [1,1,1,1,1,1,1,1] [(.raw (.slice none 0 0)),(.raw (.slice none 0 0)),(.raw (.slice none 0 0)),(.int .u8 0),(.int .u8 0),(.int .i64 0),(.int .i64 0),(.bool false)]),code:=(some KS)}
 | 44=>some {desc:=Tryz.t44.desc,size:=1,bytes:=8,zero:=(.raw .nilFunc),code:=none}
 | 45=>some {desc:=(.array 16 4),size:=16,bytes:=16,zero:=(.arr 16 .bool (List.replicate 16 false)),code:=(some (.arr 16 .bool))}
 | 46=>some {desc:=(.array 5 5),size:=5,bytes:=5,zero:=(.arr 5 (.int .u8) (List.replicate 5 (0:Int))),code:=(some (.arr 5 (.int .u8)))}
 | 47=>some {desc:=(.array 3 36),size:=9,bytes:=72,zero:=(.arr 3 aq (List.replicate 3 (false,(0,0)))),code:=(some (.arr 3 aq))}
 | 48=>some {desc:=Tryz.t48.desc,size:=1,bytes:=8,zero:=(.raw .nilFunc),code:=none}
 | 49=>some {desc:=(.pointer 51),size:=1,bytes:=8,zero:=(.raw (.pointer none)),code:=none}
 | 50=>some {desc:=Tryz.t50.desc,size:=36,bytes:=296,zero:=(.agg [21,1,1,1,3,3,3,3] [(.agg [1,1,1,8,8,1,1] [(.int .u8 0),(.int .u8 0),(.int .i64 0),(.agg [1,1,1,1,1,1,1,1] [(.int .u8 0),(.int .i64 0),(.int .i64 0),(.int .i64 0),(.int .i64 0),(.int .i64 0),(.bool false),(.int .i64 0)]),(.agg [1,1,1,1,1,1,1,1] [(.int .u8 0),(.int .i64 0),(.int .i64 0),(.int .i64 0),(.int .i64 0),(.int .i64 0),(.bool false),(.int .i64 0)]),(.int .u8 0),(.int .i64 0)]),(.int .i64 0),(.raw (.slice none 0 0)),(.int .u64 0),(.agg [1,1,1] [(.bool false),(.int .i64 0),(.int .u64 0)]),(.agg [1,1,1] [(.bool false),(.int .i64 0),(.int .u64 0)]),(.agg [1,1,1] [(.bool false),(.int .i64 0),(.int .u64 0)]),(.agg [1,1,1] [(.bool false),(.int .i64 0),(.int .u64 0)])]),code:=(some F8)}
 | 51=>some {desc:=Tryz.t50.desc,size:=36,bytes:=296,zero:=(.agg [21,1,1,1,3,3,3,3] [(.agg [1,1,1,8,8,1,1] [(.int .u8 0),(.int .u8 0),(.int .i64 0),(.agg [1,1,1,1,1,1,1,1] [(.int .u8 0),(.int .i64 0),(.int .i64 0),(.int .i64 0),(.int .i64 0),(.int .i64 0),(.bool false),(.int .i64 0)]),(.agg [1,1,1,1,1,1,1,1] [(.int .u8 0),(.int .i64 0),(.int .i64 0),(.int .i64 0),(.int .i64 0),(.int .i64 0),(.bool false),(.int .i64 0)]),(.int .u8 0),(.int .i64 0)]),(.int .i64 0),(.raw (.slice none 0 0)),(.int .u64 0),(.agg [1,1,1] [(.bool false),(.int .i64 0),(.int .u64 0)]),(.agg [1,1,1] [(.bool false),(.int .i64 0),(.int .u64 0)]),(.agg [1,1,1] [(.bool false),(.int .i64 0),(.int .u64 0)]),(.agg [1,1,1] [(.bool false),(.int .i64 0),(.int .u64 0)])]),code:=(some F8)}
 | 52=>some {desc:=Tryz.t52.desc,size:=1,bytes:=8,zero:=(.raw .nilFunc),code:=none}
 | 53=>some {desc:=Tryz.t53.desc,size:=1,bytes:=8,zero:=(.raw .nilFunc),code:=none}
 | 55=>some {desc:=(.map 5 53),size:=1,bytes:=8,zero:=(.raw (.map none)),code:=none}
 | 56=>some {desc:=Tryz.t56.desc,size:=1,bytes:=8,zero:=(.raw .nilFunc),code:=none}
 | 57=>some {desc:=Tryz.t57.desc,size:=1,bytes:=8,zero:=(.raw .nilFunc),code:=none}
 | 58=>some {desc:=(.slice 5),size:=1,bytes:=24,zero:=(.raw (.slice none 0 0)),code:=(some (.slice (.int .u8)))}
 | 59=>some {desc:=Tryz.t59.desc,size:=8,bytes:=96,zero:=(.agg [1,1,1,1,1,1,1,1] [(.int .i64 0),(.str ByteArray.empty),(.str ByteArray.empty),(.int .u8 0),(.raw (.slice none 0 0)),(.int .i64 0),(.int .i64 0),(.int .i64 0)]),code:=(some vO)}
 | 60=>some {desc:=Tryz.t59.desc,size:=8,bytes:=96,zero:=(.agg [1,1,1,1,1,1,1,1] [(.int .i64 0),(.str ByteArray.empty),(.str ByteArray.empty),(.int .u8 0),(.raw (.slice none 0 0)),(.int .i64 0),(.int .i64 0),(.int .i64 0)]),code:=(some vO)}
 | 62=>some {desc:=Tryz.t62.desc,size:=1,bytes:=8,zero:=(.raw .nilFunc),code:=none}
 | 63=>some {desc:=Tryz.t63.desc,size:=1,bytes:=8,zero:=(.raw .nilFunc),code:=none}
 | 64=>some {desc:=Tryz.t64.desc,size:=1,bytes:=8,zero:=(.raw .nilFunc),code:=none}
 | 65=>some {desc:=(.map 3 3),size:=1,bytes:=8,zero:=(.raw (.map none)),code:=none}
 | 66=>some {desc:=Tryz.t66.desc,size:=1,bytes:=8,zero:=(.raw .nilFunc),code:=none}
 | 67=>some {desc:=Tryz.t66.desc,size:=1,bytes:=8,zero:=(.raw .nilFunc),code:=none}
 | 68=>some {desc:=Tryz.t68.desc,size:=1,bytes:=8,zero:=(.raw .nilFunc),code:=none}
 | 69=>some {desc:=(.array 64 4),size:=64,bytes:=64,zero:=(.arr 64 .bool (List.replicate 64 false)),code:=(some (.arr 64 .bool))}
 | 70=>some {desc:=Tryz.t70.desc,size:=1,bytes:=8,zero:=(.raw .nilFunc),code:=none}
 | 71=>some {desc:=Tryz.t71.desc,size:=1,bytes:=8,zero:=(.raw .nilFunc),code:=none}
 | 73=>some {desc:=Tryz.t73.desc,size:=1,bytes:=8,zero:=(.raw .nilFunc),code:=none}
 | 74=>some {desc:=(.slice 80),size:=1,bytes:=24,zero:=(.raw (.slice none 0 0)),code:=none}
 | 75=>some {desc:=Tryz.t75.desc,size:=3,bytes:=56,zero:=(.agg [1,1,1] [(.raw (.slice none 0 0)),(.int .u8 0),(.raw (.slice none 0 0))]),code:=none}
 | 76=>some {desc:=Tryz.t75.desc,size:=3,bytes:=56,zero:=(.agg [1,1,1] [(.raw (.slice none 0 0)),(.int .u8 0),(.raw (.slice none 0 0))]),code:=none}
 | 77=>some {desc:=Tryz.t77.desc,size:=1,bytes:=8,zero:=(.raw .nilFunc),code:=none}
 | 78=>some {desc:=Tryz.t77.desc,size:=1,bytes:=8,zero:=(.raw .nilFunc),code:=none}
 | 79=>some {desc:=Tryz.t79.desc,size:=6,bytes:=64,zero:=(.agg [1,1,1,1,1,1] [(.raw .nilFunc),(.raw .nilFunc),(.raw (.slice none 0 0)),(.int .i64 0),(.int .i64 0),(.int .i64 0)]),code:=none}
 | 80=>some {desc:=Tryz.t79.desc,size:=6,bytes:=64,zero:=(.agg [1,1,1,1,1,1] [(.raw .nilFunc),(.raw .nilFunc),(.raw (.slice none 0 0)),(.int .i64 0),(.int .i64 0),(.int .i64 0)]),code:=none}
 | 82=>some {desc:=Tryz.t82.desc,size:=1,bytes:=8,zero:=(.raw .nilFunc),code:=none}
 | 83=>some {desc:=Tryz.t83.desc,size:=1,bytes:=8,zero:=(.raw .nilFunc),code:=none}
 | 84=>some {desc:=Tryz.t84.desc,size:=1,bytes:=8,zero:=(.raw .nilFunc),code:=none}
 | 85=>some {desc:=(.int .u64),size:=1,bytes:=8,zero:=(.int .u64 0),code:=(some (.int .u64))}
 | 86=>some {desc:=(.slice 36),size:=1,bytes:=24,zero:=(.raw (.slice none 0 0)),code:=(some (.slice aq))}
 | 87=>some {desc:=(.slice 60),size:=1,bytes:=24,zero:=(.raw (.slice none 0 0)),code:=(some (.slice vO))}
 | 88=>some {desc:=Tryz.t88.desc,size:=1,bytes:=8,zero:=(.raw .nilFunc),code:=none}
 | 89=>some {desc:=Tryz.t89.desc,size:=1,bytes:=8,zero:=(.raw .nilFunc),code:=none}
 | 90=>some {desc:=Tryz.t90.desc,size:=1,bytes:=8,zero:=(.raw .nilFunc),code:=none}
 | 91=>some {desc:=Tryz.t91.desc,size:=1,bytes:=8,zero:=(.raw .nilFunc),code:=none}
 | 92=>some {desc:=Tryz.t92.desc,size:=1,bytes:=8,zero:=(.raw .nilFunc),code:=none}
 | 93=>some {desc:=Tryz.t93.desc,size:=1,bytes:=8,zero:=(.raw .nilFunc),code:=none}
 | 94=>some {desc:=Tryz.t94.desc,size:=1,bytes:=8,zero:=(.raw .nilFunc),code:=none}
 | 95=>some {desc:=Tryz.t95.desc,size:=1,bytes:=8,zero:=(.raw .nilFunc),code:=none}
 | 96=>some {desc:=Tryz.t96.desc,size:=1,bytes:=8,zero:=(.raw .nilFunc),code:=none}
 | 97=>some {desc:=Tryz.t96.desc,size:=1,bytes:=8,zero:=(.raw .nilFunc),code:=none}
 | 98=>some {desc:=Tryz.t98.desc,size:=1,bytes:=8,zero:=(.raw .nilFunc),code:=none}
 | 99=>some {desc:=Tryz.t99.desc,size:=1,bytes:=8,zero:=(.raw .nilFunc),code:=none}
 | 100=>some {desc:=(.int .u32),size:=1,bytes:=4,zero:=(.int .u32 0),code:=(some (.int .u32))}
 | 101=>some {desc:=Tryz.t101.desc,size:=1,bytes:=8,zero:=(.raw .nilFunc),code:=none}
 | 102=>some {desc:=Tryz.t102.desc,size:=1,bytes:=8,zero:=(.raw .nilFunc),code:=none}
 | 103=>some {desc:=Tryz.t103.desc,size:=1,bytes:=8,zero:=(.raw .nilFunc),code:=none}
 | 104=>some {desc:=Tryz.t104.desc,size:=1,bytes:=8,zero:=(.raw .nilFunc),code:=none}
 | 105=>some {desc:=(.array 3 5),size:=3,bytes:=3,zero:=(.arr 3 (.int .u8) (List.replicate 3 (0:Int))),code:=(some (.arr 3 (.int .u8)))}
 | 106=>some {desc:=(.array 3 5),size:=3,bytes:=3,zero:=(.arr 3 (.int .u8) (List.replicate 3 (0:Int))),code:=(some (.arr 3 (.int .u8)))}
 | 107=>some {desc:=Tryz.t107.desc,size:=1,bytes:=8,zero:=(.raw .nilFunc),code:=none}
 | 108=>some {desc:=Tryz.t108.desc,size:=1,bytes:=8,zero:=(.raw .nilFunc),code:=none}
 | 109=>some {desc:=Tryz.t109.desc,size:=1,bytes:=8,zero:=(.raw .nilFunc),code:=none}
 | 110=>some {desc:=Tryz.t110.desc,size:=1,bytes:=8,zero:=(.raw .nilFunc),code:=none}
 | 112=>some {desc:=Tryz.t112.desc,size:=1,bytes:=8,zero:=(.raw .nilFunc),code:=none}
 | 113=>some {desc:=Tryz.t113.desc,size:=1,bytes:=8,zero:=(.raw .nilFunc),code:=none}
 | 114=>some {desc:=Tryz.t114.desc,size:=1,bytes:=8,zero:=(.raw .nilFunc),code:=none}
 | 115=>some {desc:=Tryz.t115.desc,size:=1,bytes:=8,zero:=(.raw .nilFunc),code:=none}
 | 116=>some {desc:=Tryz.t116.desc,size:=1,bytes:=8,zero:=(.raw .nilFunc),code:=none}
 | 117=>some {desc:=Tryz.t117.desc,size:=1,bytes:=8,zero:=(.raw .nilFunc),code:=none}
 | 118=>some {desc:=Tryz.t118.desc,size:=1,bytes:=8,zero:=(.raw .nilFunc),code:=none}
 | 119=>some {desc:=Tryz.t119.desc,size:=1,bytes:=8,zero:=(.raw .nilFunc),code:=none}
 | 120=>some {desc:=Tryz.t120.desc,size:=1,bytes:=8,zero:=(.raw .nilFunc),code:=none}
 | 121=>some {desc:=(.slice 76),size:=1,bytes:=24,zero:=(.raw (.slice none 0 0)),code:=none}
 | 122=>some {desc:=Tryz.t122.desc,size:=1,bytes:=8,zero:=(.raw .nilFunc),code:=none}
 | 123=>some {desc:=Tryz.t123.desc,size:=1,bytes:=8,zero:=(.raw .nilFunc),code:=none}
 | 124=>some {desc:=(.array 32 5),size:=32,bytes:=32,zero:=(.arr 32 (.int .u8) (List.replicate 32 (0:Int))),code:=(some (.arr 32 (.int .u8)))}
 | 125=>some {desc:=(.array 64 5),size:=64,bytes:=64,zero:=(.arr 64 (.int .u8) (List.replicate 64 (0:Int))),code:=(some (.arr 64 (.int .u8)))}
 | 126=>some {desc:=Tryz.t126.desc,size:=1,bytes:=8,zero:=(.raw .nilFunc),code:=none}
 | 127=>some {desc:=(.array 9 26),size:=9,bytes:=72,zero:=(.arr 9 (.int .u64) (List.replicate 9 (0:Int))),code:=(some (.arr 9 (.int .u64)))}
 | 128=>some {desc:=Tryz.t128.desc,size:=1,bytes:=8,zero:=(.raw .nilFunc),code:=none}
 | 129=>some {desc:=Tryz.t129.desc,size:=1,bytes:=8,zero:=(.raw .nilFunc),code:=none}
 | 130=>some {desc:=Tryz.t130.desc,size:=1,bytes:=8,zero:=(.raw .nilFunc),code:=none}
 | 131=>some {desc:=Tryz.t131.desc,size:=1,bytes:=8,zero:=(.raw .nilFunc),code:=none}
 | 132=>some {desc:=(.map 5 3),size:=1,bytes:=8,zero:=(.raw (.map none)),code:=none}
 | 133=>some {desc:=Tryz.t133.desc,size:=1,bytes:=8,zero:=(.raw .nilFunc),code:=none}
 | 134=>some {desc:=Tryz.t134.desc,size:=1,bytes:=8,zero:=(.raw .nilFunc),code:=none}
 | 135=>some {desc:=Tryz.t135.desc,size:=1,bytes:=8,zero:=(.raw .nilFunc),code:=none}
 | 136=>some {desc:=Tryz.t136.desc,size:=1,bytes:=8,zero:=(.raw .nilFunc),code:=none}
 | 137=>some {desc:=Tryz.t137.desc,size:=1,bytes:=8,zero:=(.raw .nilFunc),code:=none}
 | 138=>some {desc:=Tryz.t138.desc,size:=1,bytes:=8,zero:=(.raw .nilFunc),code:=none}
 | 139=>some {desc:=Tryz.t139.desc,size:=1,bytes:=8,zero:=(.raw .nilFunc),code:=none}
 | 140=>some {desc:=(.map 5 137),size:=1,bytes:=8,zero:=(.raw (.map none)),code:=none}
 | 142=>some {desc:=Tryz.t142.desc,size:=1,bytes:=8,zero:=(.raw .nilFunc),code:=none}
 | 143=>some {desc:=Tryz.t143.desc,size:=1,bytes:=8,zero:=(.raw .nilFunc),code:=none}
 | 144=>some {desc:=Tryz.t144.desc,size:=1,bytes:=8,zero:=(.raw .nilFunc),code:=none}
 | 145=>some {desc:=(.array 8 5),size:=8,bytes:=8,zero:=(.arr 8 (.int .u8) (List.replicate 8 (0:Int))),code:=(some (.arr 8 (.int .u8)))}
 | 146=>some {desc:=(.int .i8),size:=1,bytes:=1,zero:=(.int .i8 0),code:=(some (.int .i8))}
 | 147=>some {desc:=Tryz.t147.desc,size:=1,bytes:=8,zero:=(.raw .nilFunc),code:=none}
 | 148=>some {desc:=Tryz.t148.desc,size:=4,bytes:=40,zero:=(.agg [1,1,1,1] [(.raw (.pointer none)),(.raw (.pointer none)),(.raw (.pointer none)),(.str ByteArray.empty)]),code:=none}
 | 149=>some {desc:=Tryz.t148.desc,size:=4,bytes:=40,zero:=(.agg [1,1,1,1] [(.raw (.pointer none)),(.raw (.pointer none)),(.raw (.pointer none)),(.str ByteArray.empty)]),code:=none}
 | 150=>some {desc:=(.array 0 16),size:=0,bytes:=0,zero:=(.agg [] []),code:=none}
 | 153=>some {desc:=Tryz.t153.desc,size:=1,bytes:=8,zero:=(.raw .nilFunc),code:=none}
 | 154=>some {desc:=(.int .u8),size:=1,bytes:=1,zero:=(.int .u8 0),code:=(some (.int .u8))}
 | 155=>some {desc:=(.int .u8),size:=1,bytes:=1,zero:=(.int .u8 0),code:=(some (.int .u8))}
 | 156=>some {desc:=Tryz.t156.desc,size:=1,bytes:=8,zero:=(.raw .nilFunc),code:=none}
 | 157=>some {desc:=(.pointer 5),size:=1,bytes:=8,zero:=(.raw (.pointer none)),code:=none}
 | 158=>some {desc:=(.int .i32),size:=1,bytes:=4,zero:=(.int .i32 0),code:=(some (.int .i32))}
 | 159=>some {desc:=(.int .i32),size:=1,bytes:=4,zero:=(.int .i32 0),code:=(some (.int .i32))}
 | 160=>some {desc:=Tryz.t160.desc,size:=11,bytes:=48,zero:=(.agg [1,1,1,1,1,1,1,1,1,1,1] [(.int .u64 0),(.int .u64 0),(.int .u32 0),(.int .u8 0),(.int .u8 0),(.int .u8 0),(.int .u8 0),(.raw .nilFunc),(.raw (.pointer none)),(.int .i32 0),(.int .i32 0)]),code:=none}
 | 161=>some {desc:=Tryz.t160.desc,size:=11,bytes:=48,zero:=(.agg [1,1,1,1,1,1,1,1,1,1,1] [(.int .u64 0),(.int .u64 0),(.int .u32 0),(.int .u8 0),(.int .u8 0),(.int .u8 0),(.int .u8 0),(.raw .nilFunc),(.raw (.pointer none)),(.int .i32 0),(.int .i32 0)]),code:=none}
 | _=>none
theorem Mu:∀ t d,ty t=some d→d.ok Tryz.prog t:=by
 intro t d h
 unfold ty at h
 split at h
 ·cases h;exact bD.aF (i:=Tryz.t1) Tryz.underlying1 Tryz.type1 rfl (by kernel_rfl)
 ·cases h;exact bD.aF (i:=Tryz.t2) Tryz.underlying2 Tryz.type2 rfl (by kernel_rfl)
 ·cases h;exact bD.aF (i:=Tryz.t3) Tryz.underlying3 Tryz.type3 rfl (by kernel_rfl)
 ·cases h;exact bD.aF (i:=Tryz.t4) Tryz.underlying4 Tryz.type4 rfl (by kernel_rfl)
 ·cases h;exact bD.aF (i:=Tryz.t5) Tryz.underlying5 Tryz.type5 rfl (by kernel_rfl)
 ·cases h;exact bD.aF (i:=Tryz.t6) Tryz.underlying6 Tryz.type6 rfl (by kernel_rfl)
 ·cases h;exact bD.aF (i:=Tryz.t7) Tryz.underlying7 Tryz.type7 rfl (by kernel_rfl)
 ·cases h;exact bD.aF (i:=Tryz.t8) Tryz.underlying8 Tryz.type8 rfl (by kernel_rfl)
 ·cases h;exact bD.aF (i:=Tryz.t9) Tryz.underlying9 Tryz.type9 rfl (by kernel_rfl)
 ·cases h;exact bD.aF (i:=Tryz.t10) Tryz.underlying10 Tryz.type10 rfl (by kernel_rfl)
 ·cases h;exact bD.aF (i:=Tryz.t11) Tryz.underlying11 Tryz.type11 rfl (by kernel_rfl)
 ·cases h;exact bD.aF (i:=Tryz.t12) Tryz.underlying12 Tryz.type12 rfl (by kernel_rfl)
 ·cases h;exact bD.aF (i:=Tryz.t13) Tryz.underlying13 Tryz.type13 rfl (by kernel_rfl)
 ·cases h;exact bD.aF (i:=Tryz.t14) Tryz.underlying14 Tryz.type14 rfl (by kernel_rfl)
 ·cases h;exact bD.aF (i:=Tryz.t15) Tryz.underlying15 Tryz.type15 rfl (by kernel_rfl)
 ·cases h;exact bD.aF (i:=Tryz.t16) Tryz.underlying16 Tryz.type16 rfl (by kernel_rfl)
 ·cases h;exact bD.aF (i:=Tryz.t17) Tryz.underlying17 Tryz.type17 rfl (by kernel_rfl)
 ·cases h;exact bD.aF (i:=Tryz.t18) Tryz.underlying18 Tryz.type18 rfl (by kernel_rfl)
 ·cases h;exact bD.aF (i:=Tryz.t19) Tryz.underlying19 Tryz.type19 rfl (by kernel_rfl)
 ·cases h;exact bD.aF (i:=Tryz.t20) Tryz.underlying20 Tryz.type20 rfl (by kernel_rfl)
 ·cases h;exact bD.aF (i:=Tryz.t21) Tryz.underlying21 Tryz.type21 rfl (by kernel_rfl)
 ·cases h;exact bD.aF (i:=Tryz.t22) Tryz.underlying22 Tryz.type22 rfl (by kernel_rfl)
 ·cases h;exact bD.aF (i:=Tryz.t23) Tryz.underlying23 Tryz.type23 rfl (by kernel_rfl)
 ·cases h;exact bD.aF (i:=Tryz.t24) Tryz.underlying24 Tryz.type24 rfl (by kernel_rfl)
 ·cases h;exact bD.aF (i:=Tryz.t25) Tryz.underlying25 Tryz.type25 rfl (by kernel_rfl)
 ·cases h;exact bD.aF (i:=Tryz.t26) Tryz.underlying26 Tryz.type26 rfl (by kernel_rfl)
 ·cases h;exact bD.aF (i:=Tryz.t27) Tryz.underlying27 Tryz.type27 rfl (by kernel_rfl)
 ·cases h;exact bD.aF (i:=Tryz.t28) Tryz.underlying28 Tryz.type28 rfl (by kernel_rfl)
 ·cases h;exact bD.aF (i:=Tryz.t30) Tryz.underlying30 Tryz.type30 rfl (by kernel_rfl)
 ·cases h;exact bD.aF (i:=Tryz.t31) Tryz.underlying31 Tryz.type31 rfl (by kernel_rfl)
 ·cases h;exact bD.aF (i:=Tryz.t32) Tryz.underlying32 Tryz.type32 rfl (by kernel_rfl)
 ·cases h;exact bD.aF (i:=Tryz.t33) Tryz.underlying33 Tryz.type33 rfl (by kernel_rfl)
 ·cases h;exact bD.aF (i:=Tryz.t34) Tryz.underlying34 Tryz.type34 rfl (by kernel_rfl)
 ·cases h;exact bD.aF (i:=Tryz.t35) Tryz.underlying35 Tryz.type35 rfl (by kernel_rfl)
 ·cases h;exact bD.aF (i:=Tryz.t36) Tryz.underlying36 Tryz.type36 rfl (by kernel_rfl)
 ·cases h;exact bD.aF (i:=Tryz.t37) Tryz.underlying37 Tryz.type37 rfl (by kernel_rfl)
 ·cases h;exact bD.aF (i:=Tryz.t38) Tryz.underlying38 Tryz.type38 rfl (by kernel_rfl)
 ·cases h;exact bD.aF (i:=Tryz.t39) Tryz.underlying39 Tryz.type39 rfl (by kernel_rfl)
 ·cases h;exact bD.aF (i:=Tryz.t40) Tryz.underlying40 Tryz.type40 rfl (by kernel_rfl)
 ·cases h;exact bD.aF (i:=Tryz.t41) Tryz.underlying41 Tryz.type41 rfl (by kernel_rfl)
 ·cases h;exact bD.aF (i:=Tryz.t42) Tryz.underlying42 Tryz.type42 rfl (by kernel_rfl)
 ·cases h;exact bD.aF (i:=Tryz.t43) Tryz.underlying43 Tryz.type43 rfl (by kernel_rfl)
 ·cases h;exact bD.aF (i:=Tryz.t44) Tryz.underlying44 Tryz.type44 rfl (by kernel_rfl)
 ·cases h;exact bD.aF (i:=Tryz.t45) Tryz.underlying45 Tryz.type45 rfl (by kernel_rfl)
 ·cases h;exact bD.aF (i:=Tryz.t46) Tryz.underlying46 Tryz.type46 rfl (by kernel_rfl)
 ·cases h;exact bD.aF (i:=Tryz.t47) Tryz.underlying47 Tryz.type47 rfl (by kernel_rfl)
 ·cases h;exact bD.aF (i:=Tryz.t48) Tryz.underlying48 Tryz.type48 rfl (by kernel_rfl)
 ·cases h;exact bD.aF (i:=Tryz.t49) Tryz.underlying49 Tryz.type49 rfl (by kernel_rfl)
 ·cases h;exact bD.aF (i:=Tryz.t50) Tryz.underlying50 Tryz.type50 rfl (by kernel_rfl)
 ·cases h;exact bD.aF (i:=Tryz.t51) Tryz.underlying51 Tryz.type51 rfl (by kernel_rfl)
 ·cases h;exact bD.aF (i:=Tryz.t52) Tryz.underlying52 Tryz.type52 rfl (by kernel_rfl)
 ·cases h;exact bD.aF (i:=Tryz.t53) Tryz.underlying53 Tryz.type53 rfl (by kernel_rfl)
 ·cases h;exact bD.aF (i:=Tryz.t55) Tryz.underlying55 Tryz.type55 rfl (by kernel_rfl)
 ·cases h;exact bD.aF (i:=Tryz.t56) Tryz.underlying56 Tryz.type56 rfl (by kernel_rfl)
 ·cases h;exact bD.aF (i:=Tryz.t57) Tryz.underlying57 Tryz.type57 rfl (by kernel_rfl)
 ·cases h;exact bD.aF (i:=Tryz.t58) Tryz.underlying58 Tryz.type58 rfl (by kernel_rfl)
 ·cases h;exact bD.aF (i:=Tryz.t59) Tryz.underlying59 Tryz.type59 rfl (by kernel_rfl)
 ·cases h;exact bD.aF (i:=Tryz.t60) Tryz.underlying60 Tryz.type60 rfl (by kernel_rfl)
 ·cases h;exact bD.aF (i:=Tryz.t62) Tryz.underlying62 Tryz.type62 rfl (by kernel_rfl)
 ·cases h;exact bD.aF (i:=Tryz.t63) Tryz.underlying63 Tryz.type63 rfl (by kernel_rfl)
 ·cases h;exact bD.aF (i:=Tryz.t64) Tryz.underlying64 Tryz.type64 rfl (by kernel_rfl)
 ·cases h;exact bD.aF (i:=Tryz.t65) Tryz.underlying65 Tryz.type65 rfl (by kernel_rfl)
 ·cases h;exact bD.aF (i:=Tryz.t66) Tryz.underlying66 Tryz.type66 rfl (by kernel_rfl)
 ·cases h;exact bD.aF (i:=Tryz.t67) Tryz.underlying67 Tryz.type67 rfl (by kernel_rfl)
 ·cases h;exact bD.aF (i:=Tryz.t68) Tryz.underlying68 Tryz.type68 rfl (by kernel_rfl)
 ·cases h;exact bD.aF (i:=Tryz.t69) Tryz.underlying69 Tryz.type69 rfl (by kernel_rfl)
 ·cases h;exact bD.aF (i:=Tryz.t70) Tryz.underlying70 Tryz.type70 rfl (by kernel_rfl)
 ·cases h;exact bD.aF (i:=Tryz.t71) Tryz.underlying71 Tryz.type71 rfl (by kernel_rfl)
 ·cases h;exact bD.aF (i:=Tryz.t73) Tryz.underlying73 Tryz.type73 rfl (by kernel_rfl)
 ·cases h;exact bD.aF (i:=Tryz.t74) Tryz.underlying74 Tryz.type74 rfl (by kernel_rfl)
 ·cases h;exact bD.aF (i:=Tryz.t75) Tryz.underlying75 Tryz.type75 rfl (by kernel_rfl)
 ·cases h;exact bD.aF (i:=Tryz.t76) Tryz.underlying76 Tryz.type76 rfl (by kernel_rfl)
 ·cases h;exact bD.aF (i:=Tryz.t77) Tryz.underlying77 Tryz.type77 rfl (by kernel_rfl)
 ·cases h;exact bD.aF (i:=Tryz.t78) Tryz.underlying78 Tryz.type78 rfl (by kernel_rfl)
 ·cases h;exact bD.aF (i:=Tryz.t79) Tryz.underlying79 Tryz.type79 rfl (by kernel_rfl)
 ·cases h;exact bD.aF (i:=Tryz.t80) Tryz.underlying80 Tryz.type80 rfl (by kernel_rfl)
 ·cases h;exact bD.aF (i:=Tryz.t82) Tryz.underlying82 Tryz.type82 rfl (by kernel_rfl)
 ·cases h;exact bD.aF (i:=Tryz.t83) Tryz.underlying83 Tryz.type83 rfl (by kernel_rfl)
 ·cases h;exact bD.aF (i:=Tryz.t84) Tryz.underlying84 Tryz.type84 rfl (by kernel_rfl)
 ·cases h;exact bD.aF (i:=Tryz.t85) Tryz.underlying85 Tryz.type85 rfl (by kernel_rfl)
 ·cases h;exact bD.aF (i:=Tryz.t86) Tryz.underlying86 Tryz.type86 rfl (by kernel_rfl)
 ·cases h;exact bD.aF (i:=Tryz.t87) Tryz.underlying87 Tryz.type87 rfl (by kernel_rfl)
 ·cases h;exact bD.aF (i:=Tryz.t88) Tryz.underlying88 Tryz.type88 rfl (by kernel_rfl)
 ·cases h;exact bD.aF (i:=Tryz.t89) Tryz.underlying89 Tryz.type89 rfl (by kernel_rfl)
 ·cases h;exact bD.aF (i:=Tryz.t90) Tryz.underlying90 Tryz.type90 rfl (by kernel_rfl)
 ·cases h;exact bD.aF (i:=Tryz.t91) Tryz.underlying91 Tryz.type91 rfl (by kernel_rfl)
 ·cases h;exact bD.aF (i:=Tryz.t92) Tryz.underlying92 Tryz.type92 rfl (by kernel_rfl)
 ·cases h;exact bD.aF (i:=Tryz.t93) Tryz.underlying93 Tryz.type93 rfl (by kernel_rfl)
 ·cases h;exact bD.aF (i:=Tryz.t94) Tryz.underlying94 Tryz.type94 rfl (by kernel_rfl)
 ·cases h;exact bD.aF (i:=Tryz.t95) Tryz.underlying95 Tryz.type95 rfl (by kernel_rfl)
 ·cases h;exact bD.aF (i:=Tryz.t96) Tryz.underlying96 Tryz.type96 rfl (by kernel_rfl)
 ·cases h;exact bD.aF (i:=Tryz.t97) Tryz.underlying97 Tryz.type97 rfl (by kernel_rfl)
 ·cases h;exact bD.aF (i:=Tryz.t98) Tryz.underlying98 Tryz.type98 rfl (by kernel_rfl)
 ·cases h;exact bD.aF (i:=Tryz.t99) Tryz.underlying99 Tryz.type99 rfl (by kernel_rfl)
 ·cases h;exact bD.aF (i:=Tryz.t100) Tryz.underlying100 Tryz.type100 rfl (by kernel_rfl)
 ·cases h;exact bD.aF (i:=Tryz.t101) Tryz.underlying101 Tryz.type101 rfl (by kernel_rfl)
 ·cases h;exact bD.aF (i:=Tryz.t102) Tryz.underlying102 Tryz.type102 rfl (by kernel_rfl)
 ·cases h;exact bD.aF (i:=Tryz.t103) Tryz.underlying103 Tryz.type103 rfl (by kernel_rfl)
 ·cases h;exact bD.aF (i:=Tryz.t104) Tryz.underlying104 Tryz.type104 rfl (by kernel_rfl)
 ·cases h;exact bD.aF (i:=Tryz.t105) Tryz.underlying105 Tryz.type105 rfl (by kernel_rfl)
 ·cases h;exact bD.aF (i:=Tryz.t106) Tryz.underlying106 Tryz.type106 rfl (by kernel_rfl)
 ·cases h;exact bD.aF (i:=Tryz.t107) Tryz.underlying107 Tryz.type107 rfl (by kernel_rfl)
 ·cases h;exact bD.aF (i:=Tryz.t108) Tryz.underlying108 Tryz.type108 rfl (by kernel_rfl)
 ·cases h;exact bD.aF (i:=Tryz.t109) Tryz.underlying109 Tryz.type109 rfl (by kernel_rfl)
 ·cases h;exact bD.aF (i:=Tryz.t110) Tryz.underlying110 Tryz.type110 rfl (by kernel_rfl)
 ·cases h;exact bD.aF (i:=Tryz.t112) Tryz.underlying112 Tryz.type112 rfl (by kernel_rfl)
 ·cases h;exact bD.aF (i:=Tryz.t113) Tryz.underlying113 Tryz.type113 rfl (by kernel_rfl)
 ·cases h;exact bD.aF (i:=Tryz.t114) Tryz.underlying114 Tryz.type114 rfl (by kernel_rfl)
 ·cases h;exact bD.aF (i:=Tryz.t115) Tryz.underlying115 Tryz.type115 rfl (by kernel_rfl)
 ·cases h;exact bD.aF (i:=Tryz.t116) Tryz.underlying116 Tryz.type116 rfl (by kernel_rfl)
 ·cases h;exact bD.aF (i:=Tryz.t117) Tryz.underlying117 Tryz.type117 rfl (by kernel_rfl)
 ·cases h;exact bD.aF (i:=Tryz.t118) Tryz.underlying118 Tryz.type118 rfl (by kernel_rfl)
 ·cases h;exact bD.aF (i:=Tryz.t119) Tryz.underlying119 Tryz.type119 rfl (by kernel_rfl)
 ·cases h;exact bD.aF (i:=Tryz.t120) Tryz.underlying120 Tryz.type120 rfl (by kernel_rfl)
 ·cases h;exact bD.aF (i:=Tryz.t121) Tryz.underlying121 Tryz.type121 rfl (by kernel_rfl)
 ·cases h;exact bD.aF (i:=Tryz.t122) Tryz.underlying122 Tryz.type122 rfl (by kernel_rfl)
 ·cases h;exact bD.aF (i:=Tryz.t123) Tryz.underlying123 Tryz.type123 rfl (by kernel_rfl)
 ·cases h;exact bD.aF (i:=Tryz.t124) Tryz.underlying124 Tryz.type124 rfl (by kernel_rfl)
 ·cases h;exact bD.aF (i:=Tryz.t125) Tryz.underlying125 Tryz.type125 rfl (by kernel_rfl)
 ·cases h;exact bD.aF (i:=Tryz.t126) Tryz.underlying126 Tryz.type126 rfl (by kernel_rfl)
 ·cases h;exact bD.aF (i:=Tryz.t127) Tryz.underlying127 Tryz.type127 rfl (by kernel_rfl)
 ·cases h;exact bD.aF (i:=Tryz.t128) Tryz.underlying128 Tryz.type128 rfl (by kernel_rfl)
 ·cases h;exact bD.aF (i:=Tryz.t129) Tryz.underlying129 Tryz.type129 rfl (by kernel_rfl)
 ·cases h;exact bD.aF (i:=Tryz.t130) Tryz.underlying130 Tryz.type130 rfl (by kernel_rfl)
 ·cases h;exact bD.aF (i:=Tryz.t131) Tryz.underlying131 Tryz.type131 rfl (by kernel_rfl)
 ·cases h;exact bD.aF (i:=Tryz.t132) Tryz.underlying132 Tryz.type132 rfl (by kernel_rfl)
 ·cases h;exact bD.aF (i:=Tryz.t133) Tryz.underlying133 Tryz.type133 rfl (by kernel_rfl)
 ·cases h;exact bD.aF (i:=Tryz.t134) Tryz.underlying134 Tryz.type134 rfl (by kernel_rfl)
 ·cases h;exact bD.aF (i:=Tryz.t135) Tryz.underlying135 Tryz.type135 rfl (by kernel_rfl)
 ·cases h;exact bD.aF (i:=Tryz.t136) Tryz.underlying136 Tryz.type136 rfl (by kernel_rfl)
 ·cases h;exact bD.aF (i:=Tryz.t137) Tryz.underlying137 Tryz.type137 rfl (by kernel_rfl)
 ·cases h;exact bD.aF (i:=Tryz.t138) Tryz.underlying138 Tryz.type138 rfl (by kernel_rfl)
 ·cases h;exact bD.aF (i:=Tryz.t139) Tryz.underlying139 Tryz.type139 rfl (by kernel_rfl)
 ·cases h;exact bD.aF (i:=Tryz.t140) Tryz.underlying140 Tryz.type140 rfl (by kernel_rfl)
 ·cases h;exact bD.aF (i:=Tryz.t142) Tryz.underlying142 Tryz.type142 rfl (by kernel_rfl)
 ·cases h;exact bD.aF (i:=Tryz.t143) Tryz.underlying143 Tryz.type143 rfl (by kernel_rfl)
 ·cases h;exact bD.aF (i:=Tryz.t144) Tryz.underlying144 Tryz.type144 rfl (by kernel_rfl)
 ·cases h;exact bD.aF (i:=Tryz.t145) Tryz.underlying145 Tryz.type145 rfl (by kernel_rfl)
 ·cases h;exact bD.aF (i:=Tryz.t146) Tryz.underlying146 Tryz.type146 rfl (by kernel_rfl)
 ·cases h;exact bD.aF (i:=Tryz.t147) Tryz.underlying147 Tryz.type147 rfl (by kernel_rfl)
 ·cases h;exact bD.aF (i:=Tryz.t148) Tryz.underlying148 Tryz.type148 rfl (by kernel_rfl)
 ·cases h;exact bD.aF (i:=Tryz.t149) Tryz.underlying149 Tryz.type149 rfl (by kernel_rfl)
 ·cases h;exact bD.aF (i:=Tryz.t150) Tryz.underlying150 Tryz.type150 rfl (by kernel_rfl)
 ·cases h;exact bD.aF (i:=Tryz.t153) Tryz.underlying153 Tryz.type153 rfl (by kernel_rfl)
 ·cases h;exact bD.aF (i:=Tryz.t154) Tryz.underlying154 Tryz.type154 rfl (by kernel_rfl)
 ·cases h;exact bD.aF (i:=Tryz.t155) Tryz.underlying155 Tryz.type155 rfl (by kernel_rfl)
 ·cases h;exact bD.aF (i:=Tryz.t156) Tryz.underlying156 Tryz.type156 rfl (by kernel_rfl)
 ·cases h;exact bD.aF (i:=Tryz.t157) Tryz.underlying157 Tryz.type157 rfl (by kernel_rfl)
 ·cases h;exact bD.aF (i:=Tryz.t158) Tryz.underlying158 Tryz.type158 rfl (by kernel_rfl)
 ·cases h;exact bD.aF (i:=Tryz.t159) Tryz.underlying159 Tryz.type159 rfl (by kernel_rfl)
 ·cases h;exact bD.aF (i:=Tryz.t160) Tryz.underlying160 Tryz.type160 rfl (by kernel_rfl)
 ·cases h;exact bD.aF (i:=Tryz.t161) Tryz.underlying161 Tryz.type161 rfl (by kernel_rfl)
 ·cases h
noncomputable def fns:FuncId→Option Func
 | 3=>some Tryz.f3
 | 5=>some Tryz.f5
 | 6=>some Tryz.f6
 | 7=>some Tryz.f7
 | 8=>some Tryz.f8
 | 9=>some Tryz.f9
 | 10=>some Tryz.f10
 | 11=>some Tryz.f11
 | 13=>some Tryz.f13
 | 14=>some Tryz.f14
 | 15=>some Tryz.f15
 | 16=>some Tryz.f16
 | 17=>some Tryz.f17
 | 18=>some Tryz.f18
 | 19=>some Tryz.f19
 | 20=>some Tryz.f20
 | 21=>some Tryz.f21
 | 22=>some Tryz.f22
 | 23=>some Tryz.f23
 | 24=>some Tryz.f24
 | 29=>some Tryz.f29
 | 30=>some Tryz.f30
 | 31=>some Tryz.f31
 | 32=>some Tryz.f32
 | 33=>some Tryz.f33
 | 34=>some Tryz.f34
 | 35=>some Tryz.f35
 | 36=>some Tryz.f36
 | 37=>some Tryz.f37
 | 38=>some Tryz.f38
 | 39=>some Tryz.f39
 | 40=>some Tryz.f40
 | 41=>some Tryz.f41
 | 42=>some Tryz.f42
 | 43=>some Tryz.f43
 | 44=>some Tryz.f44
 | 45=>some Tryz.f45
 | 46=>some Tryz.f46
 | 47=>some Tryz.f47
 | 48=>some Tryz.f48
 | 49=>some Tryz.f49
 | 50=>some Tryz.f50
 | 51=>some Tryz.f51
 | 52=>some Tryz.f52
 | 53=>some Tryz.f53
 | 54=>some Tryz.f54
 | 55=>some Tryz.f55
 | 56=>some Tryz.f56
 | 57=>some Tryz.f57
 | 58=>some Tryz.f58
 | 59=>some Tryz.f59
 | 60=>some Tryz.f60
 | 61=>some Tryz.f61
 | 62=>some Tryz.f62
 | 63=>some Tryz.f63
 | 64=>some Tryz.f64
 | 65=>some Tryz.f65
 | 66=>some Tryz.f66
 | 67=>some Tryz.f67
 | 68=>some Tryz.f68
 | 69=>some Tryz.f69
 | 77=>some Tryz.f77
 | 79=>some Tryz.f79
 | 80=>some Tryz.f80
 | 81=>some Tryz.f81
 | 82=>some Tryz.f82
 | 83=>some Tryz.f83
 | 84=>some Tryz.f84
 | 85=>some Tryz.f85
 | 86=>some Tryz.f86
 | 87=>some Tryz.f87
 | 88=>some Tryz.f88
 | 89=>some Tryz.f89
 | 90=>some Tryz.f90
 | 91=>some Tryz.f91
 | 92=>some Tryz.f92
 | 93=>some Tryz.f93
 | 94=>some Tryz.f94
 | 95=>some Tryz.f95
 | 96=>some Tryz.f96
 | 97=>some Tryz.f97
 | 98=>some Tryz.f98
 | 99=>some Tryz.f99
 | 100=>some Tryz.f100
 | 102=>some Tryz.f102
 | 103=>some Tryz.f103
 | 104=>some Tryz.f104
 | 105=>some Tryz.f105
 | 106=>some Tryz.f106
 | 107=>some Tryz.f107
 | 108=>some Tryz.f108
 | 109=>some Tryz.f109
 | 110=>some Tryz.f110
 | 111=>some Tryz.f111
 | 112=>some Tryz.f112
 | 113=>some Tryz.f113
 | 114=>some Tryz.f114
 | 115=>some Tryz.f115
 | 116=>some Tryz.f116
 | 117=>some Tryz.f117
 | 118=>some Tryz.f118
 | 119=>some Tryz.f119
 | 120=>some Tryz.f120
 | 121=>some Tryz.f121
 | 122=>some Tryz.f122
 | 123=>some Tryz.f123
 | 124=>some Tryz.f124
 | 125=>some Tryz.f125
 | 126=>some Tryz.f126
 | 127=>some Tryz.f127
 | 128=>some Tryz.f128
 | 129=>some Tryz.f129
 | 130=>some Tryz.f130
 | 131=>some Tryz.f131
 | 132=>some Tryz.f132
 | 133=>some Tryz.f133
 | 134=>some Tryz.f134
 | 135=>some Tryz.f135
 | 136=>some Tryz.f136
 | 137=>some Tryz.f137
 | 138=>some Tryz.f138
 | 139=>some Tryz.f139
 | 140=>some Tryz.f140
 | 141=>some Tryz.f141
 | 142=>some Tryz.f142
 | 143=>some Tryz.f143
 | 144=>some Tryz.f144
 | 145=>some Tryz.f145
 | 146=>some Tryz.f146
 | 147=>some Tryz.f147
 | 148=>some Tryz.f148
 | 149=>some Tryz.f149
 | 150=>some Tryz.f150
 | 151=>some Tryz.f151
 | 152=>some Tryz.f152
 | 153=>some Tryz.f153
 | 154=>some Tryz.f154
 | 155=>some Tryz.f155
 | 156=>some Tryz.f156
 | 157=>some Tryz.f157
 | 158=>some Tryz.f158
 | 159=>some Tryz.f159
 | 160=>some Tryz.f160
 | 161=>some Tryz.f161
 | _=>none
theorem J7:∀ f fn,fns f=some fn→Tryz.prog.funcs[f]?=some fn∧(fn.name == "runtime.NumGoroutine")=false:=by
 intro f fn h
 unfold fns at h
 split at h
 ·cases h;exact ⟨Tryz.func3,by kernel_rfl⟩
 ·cases h;exact ⟨Tryz.func5,by kernel_rfl⟩
 ·cases h;exact ⟨Tryz.func6,by kernel_rfl⟩
 ·cases h;exact ⟨Tryz.func7,by kernel_rfl⟩
 ·cases h;exact ⟨Tryz.func8,by kernel_rfl⟩
 ·cases h;exact ⟨Tryz.func9,by kernel_rfl⟩
 ·cases h;exact ⟨Tryz.func10,by kernel_rfl⟩
 ·cases h;exact ⟨Tryz.func11,by kernel_rfl⟩
 ·cases h;exact ⟨Tryz.func13,by kernel_rfl⟩
 ·cases h;exact ⟨Tryz.func14,by kernel_rfl⟩
 ·cases h;exact ⟨Tryz.func15,by kernel_rfl⟩
 ·cases h;exact ⟨Tryz.func16,by kernel_rfl⟩
 ·cases h;exact ⟨Tryz.func17,by kernel_rfl⟩
 ·cases h;exact ⟨Tryz.func18,by kernel_rfl⟩
 ·cases h;exact ⟨Tryz.func19,by kernel_rfl⟩
 ·cases h;exact ⟨Tryz.func20,by kernel_rfl⟩
 ·cases h;exact ⟨Tryz.func21,by kernel_rfl⟩
 ·cases h;exact ⟨Tryz.func22,by kernel_rfl⟩
 ·cases h;exact ⟨Tryz.func23,by kernel_rfl⟩
 ·cases h;exact ⟨Tryz.func24,by kernel_rfl⟩
 ·cases h;exact ⟨Tryz.func29,by kernel_rfl⟩
 ·cases h;exact ⟨Tryz.func30,by kernel_rfl⟩
 ·cases h;exact ⟨Tryz.func31,by kernel_rfl⟩
 ·cases h;exact ⟨Tryz.func32,by kernel_rfl⟩
 ·cases h;exact ⟨Tryz.func33,by kernel_rfl⟩
 ·cases h;exact ⟨Tryz.func34,by kernel_rfl⟩
 ·cases h;exact ⟨Tryz.func35,by kernel_rfl⟩
 ·cases h;exact ⟨Tryz.func36,by kernel_rfl⟩
 ·cases h;exact ⟨Tryz.func37,by kernel_rfl⟩
 ·cases h;exact ⟨Tryz.func38,by kernel_rfl⟩
 ·cases h;exact ⟨Tryz.func39,by kernel_rfl⟩
 ·cases h;exact ⟨Tryz.func40,by kernel_rfl⟩
 ·cases h;exact ⟨Tryz.func41,by kernel_rfl⟩
 ·cases h;exact ⟨Tryz.func42,by kernel_rfl⟩
 ·cases h;exact ⟨Tryz.func43,by kernel_rfl⟩
 ·cases h;exact ⟨Tryz.func44,by kernel_rfl⟩
 ·cases h;exact ⟨Tryz.func45,by kernel_rfl⟩
 ·cases h;exact ⟨Tryz.func46,by kernel_rfl⟩
 ·cases h;exact ⟨Tryz.func47,by kernel_rfl⟩
 ·cases h;exact ⟨Tryz.func48,by kernel_rfl⟩
 ·cases h;exact ⟨Tryz.func49,by kernel_rfl⟩
 ·cases h;exact ⟨Tryz.func50,by kernel_rfl⟩
 ·cases h;exact ⟨Tryz.func51,by kernel_rfl⟩
 ·cases h;exact ⟨Tryz.func52,by kernel_rfl⟩
 ·cases h;exact ⟨Tryz.func53,by kernel_rfl⟩
 ·cases h;exact ⟨Tryz.func54,by kernel_rfl⟩
 ·cases h;exact ⟨Tryz.func55,by kernel_rfl⟩
 ·cases h;exact ⟨Tryz.func56,by kernel_rfl⟩
 ·cases h;exact ⟨Tryz.func57,by kernel_rfl⟩
 ·cases h;exact ⟨Tryz.func58,by kernel_rfl⟩
 ·cases h;exact ⟨Tryz.func59,by kernel_rfl⟩
 ·cases h;exact ⟨Tryz.func60,by kernel_rfl⟩
 ·cases h;exact ⟨Tryz.func61,by kernel_rfl⟩
 ·cases h;exact ⟨Tryz.func62,by kernel_rfl⟩
 ·cases h;exact ⟨Tryz.func63,by kernel_rfl⟩
 ·cases h;exact ⟨Tryz.func64,by kernel_rfl⟩
 ·cases h;exact ⟨Tryz.func65,by kernel_rfl⟩
 ·cases h;exact ⟨Tryz.func66,by kernel_rfl⟩
 ·cases h;exact ⟨Tryz.func67,by kernel_rfl⟩
 ·cases h;exact ⟨Tryz.func68,by kernel_rfl⟩
 ·cases h;exact ⟨Tryz.func69,by kernel_rfl⟩
 ·cases h;exact ⟨Tryz.func77,by kernel_rfl⟩
 ·cases h;exact ⟨Tryz.func79,by kernel_rfl⟩
 ·cases h;exact ⟨Tryz.func80,by kernel_rfl⟩
 ·cases h;exact ⟨Tryz.func81,by kernel_rfl⟩
 ·cases h;exact ⟨Tryz.func82,by kernel_rfl⟩
 ·cases h;exact ⟨Tryz.func83,by kernel_rfl⟩
 ·cases h;exact ⟨Tryz.func84,by kernel_rfl⟩
 ·cases h;exact ⟨Tryz.func85,by kernel_rfl⟩
 ·cases h;exact ⟨Tryz.func86,by kernel_rfl⟩
 ·cases h;exact ⟨Tryz.func87,by kernel_rfl⟩
 ·cases h;exact ⟨Tryz.func88,by kernel_rfl⟩
 ·cases h;exact ⟨Tryz.func89,by kernel_rfl⟩
 ·cases h;exact ⟨Tryz.func90,by kernel_rfl⟩
 ·cases h;exact ⟨Tryz.func91,by kernel_rfl⟩
 ·cases h;exact ⟨Tryz.func92,by kernel_rfl⟩
 ·cases h;exact ⟨Tryz.func93,by kernel_rfl⟩
 ·cases h;exact ⟨Tryz.func94,by kernel_rfl⟩
 ·cases h;exact ⟨Tryz.func95,by kernel_rfl⟩
 ·cases h;exact ⟨Tryz.func96,by kernel_rfl⟩
 ·cases h;exact ⟨Tryz.func97,by kernel_rfl⟩
 ·cases h;exact ⟨Tryz.func98,by kernel_rfl⟩
 ·cases h;exact ⟨Tryz.func99,by kernel_rfl⟩
 ·cases h;exact ⟨Tryz.func100,by kernel_rfl⟩
 ·cases h;exact ⟨Tryz.func102,by kernel_rfl⟩
 ·cases h;exact ⟨Tryz.func103,by kernel_rfl⟩
 ·cases h;exact ⟨Tryz.func104,by kernel_rfl⟩
 ·cases h;exact ⟨Tryz.func105,by kernel_rfl⟩
 ·cases h;exact ⟨Tryz.func106,by kernel_rfl⟩
 ·cases h;exact ⟨Tryz.func107,by kernel_rfl⟩
 ·cases h;exact ⟨Tryz.func108,by kernel_rfl⟩
 ·cases h;exact ⟨Tryz.func109,by kernel_rfl⟩
 ·cases h;exact ⟨Tryz.func110,by kernel_rfl⟩
 ·cases h;exact ⟨Tryz.func111,by kernel_rfl⟩
 ·cases h;exact ⟨Tryz.func112,by kernel_rfl⟩
 ·cases h;exact ⟨Tryz.func113,by kernel_rfl⟩
 ·cases h;exact ⟨Tryz.func114,by kernel_rfl⟩
 ·cases h;exact ⟨Tryz.func115,by kernel_rfl⟩
 ·cases h;exact ⟨Tryz.func116,by kernel_rfl⟩
 ·cases h;exact ⟨Tryz.func117,by kernel_rfl⟩
 ·cases h;exact ⟨Tryz.func118,by kernel_rfl⟩
 ·cases h;exact ⟨Tryz.func119,by kernel_rfl⟩
 ·cases h;exact ⟨Tryz.func120,by kernel_rfl⟩
 ·cases h;exact ⟨Tryz.func121,by kernel_rfl⟩
 ·cases h;exact ⟨Tryz.func122,by kernel_rfl⟩
 ·cases h;exact ⟨Tryz.func123,by kernel_rfl⟩
 ·cases h;exact ⟨Tryz.func124,by kernel_rfl⟩
 ·cases h;exact ⟨Tryz.func125,by kernel_rfl⟩
 ·cases h;exact ⟨Tryz.func126,by kernel_rfl⟩
 ·cases h;exact ⟨Tryz.func127,by kernel_rfl⟩
 ·cases h;exact ⟨Tryz.func128,by kernel_rfl⟩
 ·cases h;exact ⟨Tryz.func129,by kernel_rfl⟩
 ·cases h;exact ⟨Tryz.func130,by kernel_rfl⟩
 ·cases h;exact ⟨Tryz.func131,by kernel_rfl⟩
 ·cases h;exact ⟨Tryz.func132,by kernel_rfl⟩
 ·cases h;exact ⟨Tryz.func133,by kernel_rfl⟩
 ·cases h;exact ⟨Tryz.func134,by kernel_rfl⟩
 ·cases h;exact ⟨Tryz.func135,by kernel_rfl⟩
 ·cases h;exact ⟨Tryz.func136,by kernel_rfl⟩
 ·cases h;exact ⟨Tryz.func137,by kernel_rfl⟩
 ·cases h;exact ⟨Tryz.func138,by kernel_rfl⟩
 ·cases h;exact ⟨Tryz.func139,by kernel_rfl⟩
 ·cases h;exact ⟨Tryz.func140,by kernel_rfl⟩
 ·cases h;exact ⟨Tryz.func141,by kernel_rfl⟩
 ·cases h;exact ⟨Tryz.func142,by kernel_rfl⟩
 ·cases h;exact ⟨Tryz.func143,by kernel_rfl⟩
 ·cases h;exact ⟨Tryz.func144,by kernel_rfl⟩
 ·cases h;exact ⟨Tryz.func145,by kernel_rfl⟩
 ·cases h;exact ⟨Tryz.func146,by kernel_rfl⟩
 ·cases h;exact ⟨Tryz.func147,by kernel_rfl⟩
 ·cases h;exact ⟨Tryz.func148,by kernel_rfl⟩
 ·cases h;exact ⟨Tryz.func149,by kernel_rfl⟩
 ·cases h;exact ⟨Tryz.func150,by kernel_rfl⟩
 ·cases h;exact ⟨Tryz.func151,by kernel_rfl⟩
 ·cases h;exact ⟨Tryz.func152,by kernel_rfl⟩
 ·cases h;exact ⟨Tryz.func153,by kernel_rfl⟩
 ·cases h;exact ⟨Tryz.func154,by kernel_rfl⟩
 ·cases h;exact ⟨Tryz.func155,by kernel_rfl⟩
 ·cases h;exact ⟨Tryz.func156,by kernel_rfl⟩
 ·cases h;exact ⟨Tryz.func157,by kernel_rfl⟩
 ·cases h;exact ⟨Tryz.func158,by kernel_rfl⟩
 ·cases h;exact ⟨Tryz.func159,by kernel_rfl⟩
 ·cases h;exact ⟨Tryz.func160,by kernel_rfl⟩
 ·cases h;exact ⟨Tryz.func161,by kernel_rfl⟩
 ·cases h
theorem mixed:Tryz.prog.follows .mixedOrders=true:=by kernel_rfl
noncomputable def A7:List Int:=[255,255,65535,16777215,4294967295,1099511627775,281474976710655,72057594037927935,18446744073709551615]
noncomputable def cG:Nat→Option AV
 | 0=>some (.arr 3 (.int .u8) [2,4,6])
 | 1=>some (.arr 3 (.int .u8) [3,5,7])
 | 2=>some (.arr 32 (.int .u8) [0,1,28,2,29,14,24,3,30,22,20,15,25,17,4,8,31,27,13,23,21,19,16,7,26,12,18,6,11,5,10,9])
 | 3=>some (.arr 64 (.int .u8) [0,1,56,2,57,49,28,3,61,58,42,50,38,29,17,4,62,47,59,36,45,43,51,22,53,39,33,30,24,18,12,5,63,55,48,27,60,41,37,16,46,35,44,21,52,32,23,11,54,26,40,15,34,20,31,10,25,14,19,9,13,8,7,6])
 | 4=>some (.arr 9 (.int .u64) A7)
 | _=>none
def sched:FuncId→Nat→Option Ni
 | 5,7=>some (.one 1 (.one 2 (.one 0 (.one 3 (.one 4 (.one 5 (.one 6 (.one 7 (.one 8 .fin)))))))))
 | _,_=>none
def split:FuncId→Nat→Option (Nat×List Step×Nat)
 | _,_=>none
def tail:FuncId→Nat→Bool
 | _,_=>false
def FH:FuncId→Nat→List Nat
 | 4,20=>[16]
 | 9,5=>[5]
 | 26,10=>[5]
 | 50,1=>[4]
 | 50,2=>[5]
 | 51,0=>[2]
 | 51,1=>[3]
 | 51,2=>[4]
 | 51,3=>[5]
 | 59,0=>[2]
 | 59,1=>[3]
 | 83,1=>[6]
 | 84,0=>[6]
 | 84,1=>[7]
 | 84,2=>[8]
 | 87,1=>[4]
 | 87,8=>[7]
 | 87,20=>[12,13,14]
 | _,_=>[]
def jE:TypeId→Bool
 | 65=>true
 | _=>false
def Lp:FuncId→Bool
 | _=>false
def T3:FuncId→Nat→Option Nat
 | 5,11=>some 6
 | _,_=>none
def exact:FuncId→Bool
 | _=>false
def apart:FuncId→Bool
 | _=>false
theorem Cm:∀ f,apart f=true→Ae Tryz.prog f:=by
 intro f h
 unfold apart at h
 split at h
 ·cases h
noncomputable def sort:FuncId→Option fh
 | _=>none
theorem E2:∀ f s,sort f=some s→EU Tryz.prog f s:=by
 intro f s h
 unfold sort at h
 split at h
 ·cases h
noncomputable def env (sp:FuncId→Option Spec) (pc:FuncId→Option aG) (pb:Bool) (mk:FuncId→Nat→Option (List Nat)):Env:={P:=Tryz.prog,ty:=ty,fns:=fns,cG:=cG,spec:=sp,mask:=mk,exact:=exact,apart:=apart,split:=split,sched:=sched,sort:=sort,T3:=T3,tail:=tail,rows:=true,Lp:=Lp,proc:=pc,procs:=pb,jE:=jE,mw:=true,FH:=FH}
noncomputable abbrev av:Env:=env (fun _=>none) (fun _=>none) false (fun _ _=>none)
theorem valid (sp:FuncId→Option Spec) (pc:FuncId→Option aG) (pb:Bool) (mk:FuncId→Nat→Option (List Nat)):(env sp pc pb mk).Valid:=⟨Mu,J7,mixed,Cm,E2⟩
noncomputable def Cd (sp:FuncId→Option Spec) (pc:FuncId→Option aG) (pb:Bool) (mk:FuncId→Nat→Option (List Nat)):Env:={env sp pc pb mk with Cs:=true}
theorem Nk (sp:FuncId→Option Spec) (pc:FuncId→Option aG) (pb:Bool) (mk:FuncId→Nat→Option (List Nat)):(Cd sp pc pb mk).Valid:=⟨Mu,J7,mixed,Cm,E2⟩
end Go.bM.RL
end
section
namespace Go.bM.RL
open Go.Proofs Go.bM Go.RowKit
def Iu:List Int:=[0,1,28,2,29,14,24,3,30,22,20,15,25,17,4,8,31,27,13,23,21,19,16,7,26,12,18,6,11,5,10,9]
def Is:List Int:=[0,1,56,2,57,49,28,3,61,58,42,50,38,29,17,4,62,47,59,36,45,43,51,22,53,39,33,30,24,18,12,5,63,55,48,27,60,41,37,16,46,35,44,21,52,32,23,11,54,26,40,15,34,20,31,10,25,14,19,9,13,8,7,6]
def Nn:List Int:=[2,4,6]
def No:List Int:=[3,5,7]
theorem HM {W:World} (hL:laidMet Tryz.prog [("math/bits.deBruijn32tab",Lib.tabData .u8 Iu),("math/bits.deBruijn64tab",Lib.tabData .u8 Is),("sundial/bits.masks",Lib.tabData .u64 A7),("sundial/lift.more",Lib.tabData .u8 Nn),("sundial/lift.less",Lib.tabData .u8 No)] W):cT av ⟨W,mf W,⟨[]⟩⟩:=by
 have h2:=Lib.tabIs_of_head (g:=2) (by kernel_rfl) (by kernel_rfl) Tryz.underlying124 Tryz.underlying5 (by kernel_rfl) (by kernel_rfl) hL
 have h3:=Lib.tabIs_of_head (g:=3) (by kernel_rfl) (by kernel_rfl) Tryz.underlying125 Tryz.underlying5 (by kernel_rfl) (by kernel_rfl) (laidMet.tail hL)
 have h4:=Lib.tabIs_of_head (g:=4) (by kernel_rfl) (by kernel_rfl) Tryz.underlying127 Tryz.underlying26 (by kernel_rfl) (by kernel_rfl) (laidMet.tail (laidMet.tail hL))
 have h0:=Lib.tabIs_of_head (g:=0) (by kernel_rfl) (by kernel_rfl) Tryz.underlying106 Tryz.underlying5 (by kernel_rfl) (by kernel_rfl) (laidMet.tail (laidMet.tail (laidMet.tail hL)))
 have h1:=Lib.tabIs_of_head (g:=1) (by kernel_rfl) (by kernel_rfl) Tryz.underlying106 Tryz.underlying5 (by kernel_rfl) (by kernel_rfl) (laidMet.tail (laidMet.tail (laidMet.tail (laidMet.tail hL))))
 have e2:Tryz.prog.globalNamed "math/bits.deBruijn32tab" = some 2:=by kernel_rfl
 have e3:Tryz.prog.globalNamed "math/bits.deBruijn64tab" = some 3:=by kernel_rfl
 have e4:Tryz.prog.globalNamed "sundial/bits.masks" = some 4:=by kernel_rfl
 have e0:Tryz.prog.globalNamed "sundial/lift.more" = some 0:=by kernel_rfl
 have e1:Tryz.prog.globalNamed "sundial/lift.less" = some 1:=by kernel_rfl
 unfold Lib.TabIs World.var? at h0 h1 h2 h3 h4
 rw [e0] at h0
 rw [e1] at h1
 rw [e2] at h2
 rw [e3] at h3
 rw [e4] at h4
 simp only [Option.bind_some] at h0 h1 h2 h3 h4
 intro g v e
 have e:cG g=some v:=e
 unfold cG at e
 split at e
 ·cases e
  split at h0
  ·rename_i cs' t fz hh
   simp only [Option.some.injEq] at h0
   subst h0
   refine ⟨(Nn.map fun z=>Value.int .u8 z).toArray,t,fz,Nn.map fun z=>Value.int .u8 z,hh,fun ι'=>fW ι' _ _ (by kernel_rfl),?_⟩
   intro j v hj
   simpa using hj
  ·cases h0
 ·cases e
  split at h1
  ·rename_i cs' t fz hh
   simp only [Option.some.injEq] at h1
   subst h1
   refine ⟨(No.map fun z=>Value.int .u8 z).toArray,t,fz,No.map fun z=>Value.int .u8 z,hh,fun ι'=>fW ι' _ _ (by kernel_rfl),?_⟩
   intro j v hj
   simpa using hj
  ·cases h1
 ·cases e
  split at h2
  ·rename_i cs' t fz hh
   simp only [Option.some.injEq] at h2
   subst h2
   refine ⟨(Iu.map fun z=>Value.int .u8 z).toArray,t,fz,Iu.map fun z=>Value.int .u8 z,hh,fun ι'=>fW ι' _ _ (by kernel_rfl),?_⟩
   intro j v hj
   simpa using hj
  ·cases h2
 ·cases e
  split at h3
  ·rename_i cs' t fz hh
   simp only [Option.some.injEq] at h3
   subst h3
   refine ⟨(Is.map fun z=>Value.int .u8 z).toArray,t,fz,Is.map fun z=>Value.int .u8 z,hh,fun ι'=>fW ι' _ _ (by kernel_rfl),?_⟩
   intro j v hj
   simpa using hj
  ·cases h3
 ·cases e
  split at h4
  ·rename_i cs' t fz hh
   simp only [Option.some.injEq] at h4
   subst h4
   refine ⟨(A7.map fun z=>Value.int .u64 z).toArray,t,fz,A7.map fun z=>Value.int .u64 z,hh,fun ι'=>fW ι' _ _ (by kernel_rfl),?_⟩
   intro j v hj
   simpa using hj
  ·cases h4
 ·cases e
end Go.bM.RL
end
section
namespace Go.bM.RL
open Go.Proofs Go.bM
noncomputable def xn (x:Int):Tr aD:=
 .ret (true,(0,x))
noncomputable def aN (x:Int):aD:=(xn x).val
def bm (x:Int):Prop:=(xn x).ok
noncomputable def dA:Spec:={er:=(.bp (.int .u64)),cg:=aq,n:=1,pre:=bm,f:=aN}
noncomputable def zl:FuncId→Option Spec
 | _=>none
theorem HG:∀ f sp,zl f=some sp→ah av f sp:=by
 intro f sp h
 unfold zl at h
 split at h
 ·cases h
section
variable (W:cB) (Q:aD→Prop) (x:Int)
theorem RD:run (env zl (fun _=>none) false (fun _ _=>none)) (fun _ _ _=>none) (bz dA Q) W 100000 (a7 11 Tryz.f11 (ag Tryz.f11) (bg (.bp (.int .u64)) x)) [] []=(xn x).wp Q:=by kernel_rfl
end
theorem iR:ah av 11 dA:=ah.env rfl (fun _ _ h=>h) (aE (E:=(env zl (fun _=>none) false (fun _ _=>none))) (sp:=dA) (valid _ _ _ _) ⟨fun f sp h=>ah.env rfl (fun _ _ h=>h) (HG f sp h),fun f ps h=>nomatch h⟩ (fn:=Tryz.f11) (c:=(ag Tryz.f11)) (by kernel_rfl) (by kernel_rfl) xn RD (fun _ h=>Tr.ak h))
inductive KQ where
 | h0 (v2:Int) (v3:Int)
noncomputable def l4 (x:bF):Tr (KQ⊕Int):=
 .ret (.inl (.h0 (x.1.length:Int) 0))
noncomputable def hJ (x:bF):KQ→Tr (KQ⊕Int)
 | .h0 v2 v3=>
 .ite (cK v3 v2) (
 .aa ((0:Int)≤v3)<|
 .aa (v3 < (x.1.length:Int))<|
 .ite (al x.2 (gh (.int .u8) x.1 (v3).toNat)) (
 .ret (.inr v3)) (
 .ret (.inl (.h0 v2 (aU .i64 v3 1))))) (
 .ret (.inr (-1)))
noncomputable def hO (x:bF):KQ→Head
 | .h0 v2 v3=>
 {fr:={id:=114,kind:=.top,T:=[(.iT (.int .u8) x.1),(.int .u8 x.2)]++List.replicate 5 .any++[(.int .i64 v2),(.int .i64 v3)]++List.replicate 10 .any,items:=[.lp (az [1,0,1,0,0] (ag Tryz.f114)),.a6 0,.code (az [1,1] (ag Tryz.f114))],D:=[],base:=0},
  bn:=[],
  H:=[]}
noncomputable def xw:FuncId→Nat→Nat→Option Cut
 | 114,0,0=>some {tmps:=[0,1,7,8],loops:=[],dead:=[],bn:=[]}
 | _,_,_=>none
noncomputable def FT (x:bF):Int:=gy (TC.kV (.int .i64)) (hJ x) (l4 x)
def xV (x:bF):Prop:=∃ r,Ends (hJ x) r (l4 x)
noncomputable def l9:Spec:={er:=(.st (.slice (.int .u8)) (.bp (.int .u8))),cg:=(.int .i64),n:=1,pre:=xV,f:=FT}
noncomputable def mu:FuncId→Option Spec
 | _=>none
theorem El:∀ f sp,mu f=some sp→ah av f sp:=by
 intro f sp h
 unfold mu at h
 split at h
 ·cases h
section
variable (W:cB) (Q:Int→Prop) (x:bF)
theorem NW:run (env mu (fun _=>none) false (fun _ _=>none)) xw (bz l9 Q) W 100000 (a7 114 Tryz.f114 (ag Tryz.f114) (bg (.st (.slice (.int .u8)) (.bp (.int .u8))) x)) [] []=(l4 x).wp (cr W Q (hO x)):=by kernel_rfl
theorem I5 (v2 v3:Int):run (env mu (fun _=>none) false (fun _ _=>none)) xw (bz l9 Q) W 100000 (hO x (.h0 v2 v3)).fr.enter (hO x (.h0 v2 v3)).bn (hO x (.h0 v2 v3)).H=(hJ x (.h0 v2 v3)).wp (cr W Q (hO x)):=by kernel_rfl
end
theorem K7 (W:cB) (Q:Int→Prop) (x:bF):∀ j:KQ,run (env mu (fun _=>none) false (fun _ _=>none)) xw (bz l9 Q) W 100000 (hO x j).fr.enter (hO x j).bn (hO x j).H=(hJ x j).wp (cr W Q (hO x))
 | .h0 v2 v3=>I5 W Q x v2 v3
theorem Td:ah av 114 l9:=ah.env rfl (fun _ _ h=>h) (dc (E:=(env mu (fun _=>none) false (fun _ _=>none))) (sp:=l9) (valid _ _ _ _) ⟨fun f sp h=>ah.env rfl (fun _ _ h=>h) (El f sp h),fun f ps h=>nomatch h⟩ (fn:=Tryz.f114) (c:=(ag Tryz.f114)) (by kernel_rfl) (by kernel_rfl) l4 hJ hO NW K7 (fun _ h=>dn h))
noncomputable def re (x:Int):Tr DO:=
 .ret (1,(x,((-1),((-1),(0,(0,(false,0)))))))
noncomputable def vt (x:Int):DO:=(re x).val
def xT (x:Int):Prop:=(re x).ok
noncomputable def nE:Spec:={er:=(.bp (.int .i64)),cg:=CO,n:=1,pre:=xT,f:=vt}
noncomputable def sO:FuncId→Option Spec
 | _=>none
theorem D3:∀ f sp,sO f=some sp→ah av f sp:=by
 intro f sp h
 unfold sO at h
 split at h
 ·cases h
section
variable (W:cB) (Q:DO→Prop) (x:Int)
theorem ND:run (env sO (fun _=>none) false (fun _ _=>none)) (fun _ _ _=>none) (bz nE Q) W 100000 (a7 158 Tryz.f158 (ag Tryz.f158) (bg (.bp (.int .i64)) x)) [] []=(re x).wp Q:=by kernel_rfl
end
theorem M7:ah av 158 nE:=ah.env rfl (fun _ _ h=>h) (aE (E:=(env sO (fun _=>none) false (fun _ _=>none))) (sp:=nE) (valid _ _ _ _) ⟨fun f sp h=>ah.env rfl (fun _ _ h=>h) (D3 f sp h),fun f ps h=>nomatch h⟩ (fn:=Tryz.f158) (c:=(ag Tryz.f158)) (by kernel_rfl) (by kernel_rfl) re ND (fun _ h=>Tr.ak h))
noncomputable def lQ (x:DO):Tr Bool:=
 let y0:(Int×(Int×(Int×(Bool×Int)))):=x.2.2.2
 .ite (cK y0.1 0) (
 let y1:=y0.2.1
 .ret (al y1 1)) (
 let y2:=y0.2.1
 .ite ((b5 1 y2)==true) (
 .ite ((b5 y2 8)==true) (
 .ret (al (dy .i64 y2 (ie .i64 y2 1)) 0)) (
 .ret false)) (
 .ret false))
noncomputable def FP (x:DO):Bool:=(lQ x).val
def xS (x:DO):Prop:=(lQ x).ok
noncomputable def ry:Spec:={er:=(.bp CO),cg:=.bool,n:=1,pre:=xS,f:=FP}
noncomputable def sN:FuncId→Option Spec
 | _=>none
theorem DZ:∀ f sp,sN f=some sp→ah av f sp:=by
 intro f sp h
 unfold sN at h
 split at h
 ·cases h
section
variable (W:cB) (Q:Bool→Prop) (x:DO)
theorem NC:run (env sN (fun _=>none) false (fun _ _=>none)) (fun _ _ _=>none) (bz ry Q) W 100000 (a7 160 Tryz.f160 (ag Tryz.f160) (bg (.bp CO) x)) [] []=(lQ x).wp Q:=by kernel_rfl
end
theorem S0:ah av 160 ry:=ah.env rfl (fun _ _ h=>h) (aE (E:=(env sN (fun _=>none) false (fun _ _=>none))) (sp:=ry) (valid _ _ _ _) ⟨fun f sp h=>ah.env rfl (fun _ _ h=>h) (DZ f sp h),fun f ps h=>nomatch h⟩ (fn:=Tryz.f160) (c:=(ag Tryz.f160)) (by kernel_rfl) (by kernel_rfl) lQ NC (fun _ h=>Tr.ak h))
noncomputable def lS (x:DO):Tr Bool:=
 .ite (al x.1 1) (
 let y0:=x.2.1
 .ite ((b5 0 y0)==true) (
 .ite ((cK y0 16)==true) (
 .aa (xT y0)<|
 .ret (dm CO x (vt y0))) (
 .ret false)) (
 .ret false)) (
 .ite ((dY x.1 2)==false) (
 let y1:=x.2.1
 .ite ((dY y1 0)==false) (
 let y2:=x.2.2
 let y3:=y2.2
 let y4:=y3.2
 let y5:=y4.2
 let y6:=y5.2
 .ite ((dY y6.2 0)==false) (
 let y7:=y5.1
 .ite (dY (aO .i64 (aO .i32 y7)) y7) (
 .ret false) (
 .ite y6.1 (
 let y8:=y2.1
 .ite ((al y8 (-1))==true) (
 let y9:=y3.1
 .ite ((al y9 (-1))==true) (
 .ret (al y4.1 1)) (
 .ret false)) (
 .ret false)) (
 let y10:=y2.1
 .ite ((b5 (-1) y10)==true) (
 .ite ((cK y10 16)==true) (
 let y11:=y3.1
 .ite ((b5 (-1) y11)==true) (
 .ite ((cK y11 16)==true) (
 .ite ((dY y11 4)==true) (
 .aa (xS x)<|
 .ret (FP x)) (
 .ret false)) (
 .ret false)) (
 .ret false)) (
 .ret false)) (
 .ret false)))) (
 .ret false)) (
 .ret false)) (
 .ret false))
noncomputable def iE (x:DO):Bool:=(lS x).val
def p8 (x:DO):Prop:=(lS x).ok
noncomputable def l7:Spec:={er:=(.bp CO),cg:=.bool,n:=1,pre:=p8,f:=iE}
noncomputable def sR:FuncId→Option Spec
 | 158=>some nE
 | 160=>some ry
 | _=>none
theorem D6:∀ f sp,sR f=some sp→ah av f sp:=by
 intro f sp h
 unfold sR at h
 split at h
 ·cases h;exact M7
 ·cases h;exact S0
 ·cases h
section
variable (W:cB) (Q:Bool→Prop) (x:DO)
theorem NH:run (env sR (fun _=>none) false (fun _ _=>none)) (fun _ _ _=>none) (bz l7 Q) W 100000 (a7 155 Tryz.f155 (ag Tryz.f155) (bg (.bp CO) x)) [] []=(lS x).wp Q:=by kernel_rfl
end
theorem JM:ah av 155 l7:=ah.env rfl (fun _ _ h=>h) (aE (E:=(env sR (fun _=>none) false (fun _ _=>none))) (sp:=l7) (valid _ _ _ _) ⟨fun f sp h=>ah.env rfl (fun _ _ h=>h) (D6 f sp h),fun f ps h=>nomatch h⟩ (fn:=Tryz.f155) (c:=(ag Tryz.f155)) (by kernel_rfl) (by kernel_rfl) lS NH (fun _ h=>Tr.ak h))
noncomputable def rj (x:DO):Tr Bool:=
 .aa (p8 x)<|
 .ret (iE x)
noncomputable def ef (x:DO):Bool:=(rj x).val
def dg (x:DO):Prop:=(rj x).ok
noncomputable def rH:Spec:={er:=(.bp CO),cg:=.bool,n:=1,pre:=dg,f:=ef}
noncomputable def s8:FuncId→Option Spec
 | 155=>some l7
 | _=>none
theorem Ek:∀ f sp,s8 f=some sp→ah av f sp:=by
 intro f sp h
 unfold s8 at h
 split at h
 ·cases h;exact JM
 ·cases h
section
variable (W:cB) (Q:Bool→Prop) (x:DO)
theorem NV:run (env s8 (fun _=>none) false (fun _ _=>none)) (fun _ _ _=>none) (bz rH Q) W 100000 (a7 116 Tryz.f116 (ag Tryz.f116) (bg (.bp CO) x)) [] []=(rj x).wp Q:=by kernel_rfl
end
theorem Tc:ah av 116 rH:=ah.env rfl (fun _ _ h=>h) (aE (E:=(env s8 (fun _=>none) false (fun _ _=>none))) (sp:=rH) (valid _ _ _ _) ⟨fun f sp h=>ah.env rfl (fun _ _ h=>h) (Ek f sp h),fun f ps h=>nomatch h⟩ (fn:=Tryz.f116) (c:=(ag Tryz.f116)) (by kernel_rfl) (by kernel_rfl) rj NV (fun _ h=>Tr.ak h))
noncomputable def l3 (x:DO):Tr Bool:=
 .ite ((al x.1 1)==true) (
 .aa (p8 x)<|
 .ret (iE x)) (
 .ret false)
noncomputable def dV (x:DO):Bool:=(l3 x).val
def cY (x:DO):Prop:=(l3 x).ok
noncomputable def rG:Spec:={er:=(.bp CO),cg:=.bool,n:=1,pre:=cY,f:=dV}
noncomputable def s7:FuncId→Option Spec
 | 155=>some l7
 | _=>none
theorem Ej:∀ f sp,s7 f=some sp→ah av f sp:=by
 intro f sp h
 unfold s7 at h
 split at h
 ·cases h;exact JM
 ·cases h
section
variable (W:cB) (Q:Bool→Prop) (x:DO)
theorem NU:run (env s7 (fun _=>none) false (fun _ _=>none)) (fun _ _ _=>none) (bz rG Q) W 100000 (a7 117 Tryz.f117 (ag Tryz.f117) (bg (.bp CO) x)) [] []=(l3 x).wp Q:=by kernel_rfl
end
theorem Tb:ah av 117 rG:=ah.env rfl (fun _ _ h=>h) (aE (E:=(env s7 (fun _=>none) false (fun _ _=>none))) (sp:=rG) (valid _ _ _ _) ⟨fun f sp h=>ah.env rfl (fun _ _ h=>h) (Ej f sp h),fun f ps h=>nomatch h⟩ (fn:=Tryz.f117) (c:=(ag Tryz.f117)) (by kernel_rfl) (by kernel_rfl) l3 NU (fun _ h=>Tr.ak h))
noncomputable def lZ (x:DO):Tr Bool:=
 .ite ((al x.1 2)==true) (
 .aa (p8 x)<|
 .ret (iE x)) (
 .ret false)
noncomputable def oa (x:DO):Bool:=(lZ x).val
def ku (x:DO):Prop:=(lZ x).ok
noncomputable def nG:Spec:={er:=(.bp CO),cg:=.bool,n:=1,pre:=ku,f:=oa}
noncomputable def s6:FuncId→Option Spec
 | 155=>some l7
 | _=>none
theorem Ei:∀ f sp,s6 f=some sp→ah av f sp:=by
 intro f sp h
 unfold s6 at h
 split at h
 ·cases h;exact JM
 ·cases h
section
variable (W:cB) (Q:Bool→Prop) (x:DO)
theorem NT:run (env s6 (fun _=>none) false (fun _ _=>none)) (fun _ _ _=>none) (bz nG Q) W 100000 (a7 118 Tryz.f118 (ag Tryz.f118) (bg (.bp CO) x)) [] []=(lZ x).wp Q:=by kernel_rfl
end
theorem M9:ah av 118 nG:=ah.env rfl (fun _ _ h=>h) (aE (E:=(env s6 (fun _=>none) false (fun _ _=>none))) (sp:=nG) (valid _ _ _ _) ⟨fun f sp h=>ah.env rfl (fun _ _ h=>h) (Ei f sp h),fun f ps h=>nomatch h⟩ (fn:=Tryz.f118) (c:=(ag Tryz.f118)) (by kernel_rfl) (by kernel_rfl) lZ NT (fun _ h=>Tr.ak h))
noncomputable def rb (x:Int):Tr DO:=
 .ret (3,(0,((-1),((-1),(0,(0,(false,x)))))))
noncomputable def FO (x:Int):DO:=(rb x).val
def CY (x:Int):Prop:=(rb x).ok
noncomputable def rq:Spec:={er:=(.bp (.int .i64)),cg:=CO,n:=1,pre:=CY,f:=FO}
noncomputable def sM:FuncId→Option Spec
 | _=>none
theorem DY:∀ f sp,sM f=some sp→ah av f sp:=by
 intro f sp h
 unfold sM at h
 split at h
 ·cases h
section
variable (W:cB) (Q:DO→Prop) (x:Int)
theorem NB:run (env sM (fun _=>none) false (fun _ _=>none)) (fun _ _ _=>none) (bz rq Q) W 100000 (a7 161 Tryz.f161 (ag Tryz.f161) (bg (.bp (.int .i64)) x)) [] []=(rb x).wp Q:=by kernel_rfl
end
theorem SZ:ah av 161 rq:=ah.env rfl (fun _ _ h=>h) (aE (E:=(env sM (fun _=>none) false (fun _ _=>none))) (sp:=rq) (valid _ _ _ _) ⟨fun f sp h=>ah.env rfl (fun _ _ h=>h) (DY f sp h),fun f ps h=>nomatch h⟩ (fn:=Tryz.f161) (c:=(ag Tryz.f161)) (by kernel_rfl) (by kernel_rfl) rb NB (fun _ h=>Tr.ak h))
noncomputable def lR (x:DO):Tr Bool:=
 .ite ((al x.1 3)==true) (
 let y0:=x.2.2.2.2.2.2.2
 .aa (CY y0)<|
 .ret (dm CO x (FO y0))) (
 .ret false)
noncomputable def vu (x:DO):Bool:=(lR x).val
def ni (x:DO):Prop:=(lR x).ok
noncomputable def kj:Spec:={er:=(.bp CO),cg:=.bool,n:=1,pre:=ni,f:=vu}
noncomputable def sQ:FuncId→Option Spec
 | 161=>some rq
 | _=>none
theorem D5:∀ f sp,sQ f=some sp→ah av f sp:=by
 intro f sp h
 unfold sQ at h
 split at h
 ·cases h;exact SZ
 ·cases h
section
variable (W:cB) (Q:Bool→Prop) (x:DO)
theorem NG:run (env sQ (fun _=>none) false (fun _ _=>none)) (fun _ _ _=>none) (bz kj Q) W 100000 (a7 156 Tryz.f156 (ag Tryz.f156) (bg (.bp CO) x)) [] []=(lR x).wp Q:=by kernel_rfl
end
theorem Fl:ah av 156 kj:=ah.env rfl (fun _ _ h=>h) (aE (E:=(env sQ (fun _=>none) false (fun _ _=>none))) (sp:=kj) (valid _ _ _ _) ⟨fun f sp h=>ah.env rfl (fun _ _ h=>h) (D5 f sp h),fun f ps h=>nomatch h⟩ (fn:=Tryz.f156) (c:=(ag Tryz.f156)) (by kernel_rfl) (by kernel_rfl) lR NG (fun _ h=>Tr.ak h))
noncomputable def lY (x:DO):Tr Bool:=
 .aa (ni x)<|
 .ite ((vu x)==true) (
 let y0:=x.2.2.2.2.2.2.2
 .ret (al (aO .i64 (aO .i8 y0)) y0)) (
 .ret false)
noncomputable def B4 (x:DO):Bool:=(lY x).val
def u0 (x:DO):Prop:=(lY x).ok
noncomputable def rF:Spec:={er:=(.bp CO),cg:=.bool,n:=1,pre:=u0,f:=B4}
noncomputable def s5:FuncId→Option Spec
 | 156=>some kj
 | _=>none
theorem Eh:∀ f sp,s5 f=some sp→ah av f sp:=by
 intro f sp h
 unfold s5 at h
 split at h
 ·cases h;exact Fl
 ·cases h
section
variable (W:cB) (Q:Bool→Prop) (x:DO)
theorem NS:run (env s5 (fun _=>none) false (fun _ _=>none)) (fun _ _ _=>none) (bz rF Q) W 100000 (a7 119 Tryz.f119 (ag Tryz.f119) (bg (.bp CO) x)) [] []=(lY x).wp Q:=by kernel_rfl
end
theorem Ta:ah av 119 rF:=ah.env rfl (fun _ _ h=>h) (aE (E:=(env s5 (fun _=>none) false (fun _ _=>none))) (sp:=rF) (valid _ _ _ _) ⟨fun f sp h=>ah.env rfl (fun _ _ h=>h) (Eh f sp h),fun f ps h=>nomatch h⟩ (fn:=Tryz.f119) (c:=(ag Tryz.f119)) (by kernel_rfl) (by kernel_rfl) lY NS (fun _ h=>Tr.ak h))
noncomputable def lX (x:DO):Tr Bool:=
 .aa (ni x)<|
 .ite ((vu x)==true) (
 let y0:=x.2.2.2.2.2.2.2
 .ret (al (aO .i64 (aO .i32 y0)) y0)) (
 .ret false)
noncomputable def eB (x:DO):Bool:=(lX x).val
def dv (x:DO):Prop:=(lX x).ok
noncomputable def rE:Spec:={er:=(.bp CO),cg:=.bool,n:=1,pre:=dv,f:=eB}
noncomputable def s4:FuncId→Option Spec
 | 156=>some kj
 | _=>none
theorem Eg:∀ f sp,s4 f=some sp→ah av f sp:=by
 intro f sp h
 unfold s4 at h
 split at h
 ·cases h;exact Fl
 ·cases h
section
variable (W:cB) (Q:Bool→Prop) (x:DO)
theorem NR:run (env s4 (fun _=>none) false (fun _ _=>none)) (fun _ _ _=>none) (bz rE Q) W 100000 (a7 120 Tryz.f120 (ag Tryz.f120) (bg (.bp CO) x)) [] []=(lX x).wp Q:=by kernel_rfl
end
theorem S9:ah av 120 rE:=ah.env rfl (fun _ _ h=>h) (aE (E:=(env s4 (fun _=>none) false (fun _ _=>none))) (sp:=rE) (valid _ _ _ _) ⟨fun f sp h=>ah.env rfl (fun _ _ h=>h) (Eg f sp h),fun f ps h=>nomatch h⟩ (fn:=Tryz.f120) (c:=(ag Tryz.f120)) (by kernel_rfl) (by kernel_rfl) lX NR (fun _ h=>Tr.ak h))
noncomputable def rf (x:Int):Tr DO:=
 .ret (1,((aU .i64 (dy .i64 x 15) 16),((-1),((-1),(0,(0,(false,0)))))))
noncomputable def FQ (x:Int):DO:=(rf x).val
def CZ (x:Int):Prop:=(rf x).ok
noncomputable def rz:Spec:={er:=(.bp (.int .i64)),cg:=CO,n:=1,pre:=CZ,f:=FQ}
noncomputable def sP:FuncId→Option Spec
 | _=>none
theorem D4:∀ f sp,sP f=some sp→ah av f sp:=by
 intro f sp h
 unfold sP at h
 split at h
 ·cases h
section
variable (W:cB) (Q:DO→Prop) (x:Int)
theorem NF:run (env sP (fun _=>none) false (fun _ _=>none)) (fun _ _ _=>none) (bz rz Q) W 100000 (a7 157 Tryz.f157 (ag Tryz.f157) (bg (.bp (.int .i64)) x)) [] []=(rf x).wp Q:=by kernel_rfl
end
theorem S3:ah av 157 rz:=ah.env rfl (fun _ _ h=>h) (aE (E:=(env sP (fun _=>none) false (fun _ _=>none))) (sp:=rz) (valid _ _ _ _) ⟨fun f sp h=>ah.env rfl (fun _ _ h=>h) (D4 f sp h),fun f ps h=>nomatch h⟩ (fn:=Tryz.f157) (c:=(ag Tryz.f157)) (by kernel_rfl) (by kernel_rfl) rf NF (fun _ h=>Tr.ak h))
noncomputable def lW (x:DO):Tr Bool:=
 .ite ((al x.1 1)==true) (
 let y0:=x.2.1
 .ite ((al (kN .i64 y0 15) 16)==true) (
 .aa (CZ y0)<|
 .ret (dm CO x (FQ y0))) (
 .ret false)) (
 .ret false)
noncomputable def mU (x:DO):Bool:=(lW x).val
def jC (x:DO):Prop:=(lW x).ok
noncomputable def nF:Spec:={er:=(.bp CO),cg:=.bool,n:=1,pre:=jC,f:=mU}
noncomputable def sZ:FuncId→Option Spec
 | 157=>some rz
 | _=>none
theorem Ef:∀ f sp,sZ f=some sp→ah av f sp:=by
 intro f sp h
 unfold sZ at h
 split at h
 ·cases h;exact S3
 ·cases h
section
variable (W:cB) (Q:Bool→Prop) (x:DO)
theorem NQ:run (env sZ (fun _=>none) false (fun _ _=>none)) (fun _ _ _=>none) (bz nF Q) W 100000 (a7 123 Tryz.f123 (ag Tryz.f123) (bg (.bp CO) x)) [] []=(lW x).wp Q:=by kernel_rfl
end
theorem M8:ah av 123 nF:=ah.env rfl (fun _ _ h=>h) (aE (E:=(env sZ (fun _=>none) false (fun _ _=>none))) (sp:=nF) (valid _ _ _ _) ⟨fun f sp h=>ah.env rfl (fun _ _ h=>h) (Ef f sp h),fun f ps h=>nomatch h⟩ (fn:=Tryz.f123) (c:=(ag Tryz.f123)) (by kernel_rfl) (by kernel_rfl) lW NQ (fun _ h=>Tr.ak h))
noncomputable def lV (x:DO):Tr Bool:=
 .aa (jC x)<|
 .ite ((mU x)==false) (
 .aa (ku x)<|
 .ret (oa x)) (
 .ret true)
noncomputable def qM (x:DO):Bool:=(lV x).val
def lr (x:DO):Prop:=(lV x).ok
noncomputable def rD:Spec:={er:=(.bp CO),cg:=.bool,n:=1,pre:=lr,f:=qM}
noncomputable def sY:FuncId→Option Spec
 | 118=>some nG
 | 123=>some nF
 | _=>none
theorem Ee:∀ f sp,sY f=some sp→ah av f sp:=by
 intro f sp h
 unfold sY at h
 split at h
 ·cases h;exact M9
 ·cases h;exact M8
 ·cases h
section
variable (W:cB) (Q:Bool→Prop) (x:DO)
theorem NP:run (env sY (fun _=>none) false (fun _ _=>none)) (fun _ _ _=>none) (bz rD Q) W 100000 (a7 124 Tryz.f124 (ag Tryz.f124) (bg (.bp CO) x)) [] []=(lV x).wp Q:=by kernel_rfl
end
theorem S8:ah av 124 rD:=ah.env rfl (fun _ _ h=>h) (aE (E:=(env sY (fun _=>none) false (fun _ _=>none))) (sp:=rD) (valid _ _ _ _) ⟨fun f sp h=>ah.env rfl (fun _ _ h=>h) (Ee f sp h),fun f ps h=>nomatch h⟩ (fn:=Tryz.f124) (c:=(ag Tryz.f124)) (by kernel_rfl) (by kernel_rfl) lV NP (fun _ h=>Tr.ak h))
noncomputable def lU (x:DO):Tr Bool:=
 .aa (ni x)<|
 .ite ((vu x)==true) (
 let y0:=x.2.2.2.2.2.2.2
 .ret (al (aO .i64 (aO .u8 y0)) y0)) (
 .ret false)
noncomputable def qL (x:DO):Bool:=(lU x).val
def lq (x:DO):Prop:=(lU x).ok
noncomputable def rC:Spec:={er:=(.bp CO),cg:=.bool,n:=1,pre:=lq,f:=qL}
noncomputable def sX:FuncId→Option Spec
 | 156=>some kj
 | _=>none
theorem Ed:∀ f sp,sX f=some sp→ah av f sp:=by
 intro f sp h
 unfold sX at h
 split at h
 ·cases h;exact Fl
 ·cases h
section
variable (W:cB) (Q:Bool→Prop) (x:DO)
theorem NO:run (env sX (fun _=>none) false (fun _ _=>none)) (fun _ _ _=>none) (bz rC Q) W 100000 (a7 126 Tryz.f126 (ag Tryz.f126) (bg (.bp CO) x)) [] []=(lU x).wp Q:=by kernel_rfl
end
theorem S7:ah av 126 rC:=ah.env rfl (fun _ _ h=>h) (aE (E:=(env sX (fun _=>none) false (fun _ _=>none))) (sp:=rC) (valid _ _ _ _) ⟨fun f sp h=>ah.env rfl (fun _ _ h=>h) (Ed f sp h),fun f ps h=>nomatch h⟩ (fn:=Tryz.f126) (c:=(ag Tryz.f126)) (by kernel_rfl) (by kernel_rfl) lU NO (fun _ h=>Tr.ak h))
noncomputable def ri (x:DO):Tr Bool:=
 .aa (xT 1)<|
 .ret (dm CO x (vt 1))
noncomputable def Ki (x:DO):Bool:=(ri x).val
def C0 (x:DO):Prop:=(ri x).ok
noncomputable def rB:Spec:={er:=(.bp CO),cg:=.bool,n:=1,pre:=C0,f:=Ki}
noncomputable def sW:FuncId→Option Spec
 | 158=>some nE
 | _=>none
theorem Ec:∀ f sp,sW f=some sp→ah av f sp:=by
 intro f sp h
 unfold sW at h
 split at h
 ·cases h;exact M7
 ·cases h
section
variable (W:cB) (Q:Bool→Prop) (x:DO)
theorem NN:run (env sW (fun _=>none) false (fun _ _=>none)) (fun _ _ _=>none) (bz rB Q) W 100000 (a7 127 Tryz.f127 (ag Tryz.f127) (bg (.bp CO) x)) [] []=(ri x).wp Q:=by kernel_rfl
end
theorem S6:ah av 127 rB:=ah.env rfl (fun _ _ h=>h) (aE (E:=(env sW (fun _=>none) false (fun _ _=>none))) (sp:=rB) (valid _ _ _ _) ⟨fun f sp h=>ah.env rfl (fun _ _ h=>h) (Ec f sp h),fun f ps h=>nomatch h⟩ (fn:=Tryz.f127) (c:=(ag Tryz.f127)) (by kernel_rfl) (by kernel_rfl) ri NN (fun _ h=>Tr.ak h))
noncomputable def rh (x:DO):Tr Bool:=
 .ret (dm CO x (0,(0,(0,(0,(0,(0,(false,0))))))))
noncomputable def bE (x:DO):Bool:=(rh x).val
def a8 (x:DO):Prop:=(rh x).ok
noncomputable def rA:Spec:={er:=(.bp CO),cg:=.bool,n:=1,pre:=a8,f:=bE}
noncomputable def sV:FuncId→Option Spec
 | _=>none
theorem Eb:∀ f sp,sV f=some sp→ah av f sp:=by
 intro f sp h
 unfold sV at h
 split at h
 ·cases h
section
variable (W:cB) (Q:Bool→Prop) (x:DO)
theorem NM:run (env sV (fun _=>none) false (fun _ _=>none)) (fun _ _ _=>none) (bz rA Q) W 100000 (a7 141 Tryz.f141 (ag Tryz.f141) (bg (.bp CO) x)) [] []=(rh x).wp Q:=by kernel_rfl
end
theorem S5:ah av 141 rA:=ah.env rfl (fun _ _ h=>h) (aE (E:=(env sV (fun _=>none) false (fun _ _=>none))) (sp:=rA) (valid _ _ _ _) ⟨fun f sp h=>ah.env rfl (fun _ _ h=>h) (Eb f sp h),fun f ps h=>nomatch h⟩ (fn:=Tryz.f141) (c:=(ag Tryz.f141)) (by kernel_rfl) (by kernel_rfl) rh NM (fun _ h=>Tr.ak h))
inductive KP where
 | h0 (v2:Int) (v3:Int)
noncomputable def lT (x:bF):Tr (KP⊕Int):=
 .ret (.inl (.h0 (x.1.length:Int) 0))
noncomputable def gZ (x:bF):KP→Tr (KP⊕Int)
 | .h0 v2 v3=>
 .ite (cK v3 v2) (
 .aa ((0:Int)≤v3)<|
 .aa (v3 < (x.1.length:Int))<|
 .ite (al x.2 (gh (.int .i64) x.1 (v3).toNat)) (
 .ret (.inr v3)) (
 .ret (.inl (.h0 v2 (aU .i64 v3 1))))) (
 .ret (.inr (-1)))
noncomputable def hN (x:bF):KP→Head
 | .h0 v2 v3=>
 {fr:={id:=151,kind:=.top,T:=[(.iT (.int .i64) x.1),(.int .i64 x.2)]++List.replicate 5 .any++[(.int .i64 v2),(.int .i64 v3)]++List.replicate 10 .any,items:=[.lp (az [1,0,1,0,0] (ag Tryz.f151)),.a6 0,.code (az [1,1] (ag Tryz.f151))],D:=[],base:=0},
  bn:=[],
  H:=[]}
noncomputable def xu:FuncId→Nat→Nat→Option Cut
 | 151,0,0=>some {tmps:=[0,1,7,8],loops:=[],dead:=[],bn:=[]}
 | _,_,_=>none
noncomputable def FR (x:bF):Int:=gy (TC.kV (.int .i64)) (gZ x) (lT x)
def JC (x:bF):Prop:=∃ r,Ends (gZ x) r (lT x)
noncomputable def l8:Spec:={er:=(.st (.slice (.int .i64)) (.bp (.int .i64))),cg:=(.int .i64),n:=1,pre:=JC,f:=FR}
noncomputable def mr:FuncId→Option Spec
 | _=>none
theorem Ea:∀ f sp,mr f=some sp→ah av f sp:=by
 intro f sp h
 unfold mr at h
 split at h
 ·cases h
section
variable (W:cB) (Q:Int→Prop) (x:bF)
theorem NL:run (env mr (fun _=>none) false (fun _ _=>none)) xu (bz l8 Q) W 100000 (a7 151 Tryz.f151 (ag Tryz.f151) (bg (.st (.slice (.int .i64)) (.bp (.int .i64))) x)) [] []=(lT x).wp (cr W Q (hN x)):=by kernel_rfl
theorem I4 (v2 v3:Int):run (env mr (fun _=>none) false (fun _ _=>none)) xu (bz l8 Q) W 100000 (hN x (.h0 v2 v3)).fr.enter (hN x (.h0 v2 v3)).bn (hN x (.h0 v2 v3)).H=(gZ x (.h0 v2 v3)).wp (cr W Q (hN x)):=by kernel_rfl
end
theorem K6 (W:cB) (Q:Int→Prop) (x:bF):∀ j:KP,run (env mr (fun _=>none) false (fun _ _=>none)) xu (bz l8 Q) W 100000 (hN x j).fr.enter (hN x j).bn (hN x j).H=(gZ x j).wp (cr W Q (hN x))
 | .h0 v2 v3=>I4 W Q x v2 v3
theorem S4:ah av 151 l8:=ah.env rfl (fun _ _ h=>h) (dc (E:=(env mr (fun _=>none) false (fun _ _=>none))) (sp:=l8) (valid _ _ _ _) ⟨fun f sp h=>ah.env rfl (fun _ _ h=>h) (Ea f sp h),fun f ps h=>nomatch h⟩ (fn:=Tryz.f151) (c:=(ag Tryz.f151)) (by kernel_rfl) (by kernel_rfl) lT gZ hN NL K6 (fun _ h=>dn h))
noncomputable def rn (x:bF):Tr Bool:=
 .aa (JC x)<|
 .ret (b5 0 (FR x))
noncomputable def bf (x:bF):Bool:=(rn x).val
def aM (x:bF):Prop:=(rn x).ok
noncomputable def rN:Spec:={er:=(.st (.slice (.int .i64)) (.bp (.int .i64))),cg:=.bool,n:=1,pre:=aM,f:=bf}
noncomputable def tl:FuncId→Option Spec
 | 151=>some l8
 | _=>none
theorem Ew:∀ f sp,tl f=some sp→ah av f sp:=by
 intro f sp h
 unfold tl at h
 split at h
 ·cases h;exact S4
 ·cases h
section
variable (W:cB) (Q:Bool→Prop) (x:bF)
theorem N6:run (env tl (fun _=>none) false (fun _ _=>none)) (fun _ _ _=>none) (bz rN Q) W 100000 (a7 104 Tryz.f104 (ag Tryz.f104) (bg (.st (.slice (.int .i64)) (.bp (.int .i64))) x)) [] []=(rn x).wp Q:=by kernel_rfl
end
theorem Tk:ah av 104 rN:=ah.env rfl (fun _ _ h=>h) (aE (E:=(env tl (fun _=>none) false (fun _ _=>none))) (sp:=rN) (valid _ _ _ _) ⟨fun f sp h=>ah.env rfl (fun _ _ h=>h) (Ew f sp h),fun f ps h=>nomatch h⟩ (fn:=Tryz.f104) (c:=(ag Tryz.f104)) (by kernel_rfl) (by kernel_rfl) rn N6 (fun _ h=>Tr.ak h))
end Go.bM.RL
end
section
namespace Go.bM.RL
open Go.Proofs Go.bM
inductive Ql where
 | h0
 | h1 (v43:ao) (v59:Int) (v65:Int) (v68:ao) (v69:ao) (v70:ao) (v71:ao)
 | h2 (v43:ao) (v62:ao) (v63:ao) (v64:ao) (v86:ao) (v105:ao) (v106:ao) (v107:ao) (v108:ao) (v115:ao)
 | h3 (v43:ao) (v50:ao)
 | h4 (v43:ao) (v56:ao) (v57:ao)
 | h5 (v43:ao) (v47:Int) (v50:ao)
 | h6 (v43:ao) (v47:Int) (v53:Int) (v56:ao) (v57:ao)
 | h7 (v43:ao) (v50:ao)
 | h8 (v43:ao) (v50:ao)
 | h9 (v43:ao) (v56:ao) (v57:ao)
 | BV (v43:ao) (v50:ao)
 | vm (v43:ao) (v49:Int) (v50:ao)
 | lC (v43:ao) (v50:ao)
 | kz (v43:ao) (v56:ao) (v57:ao)
 | jM (v43:ao) (v50:ao)
 | gF (v43:ao) (v50:ao)
 | gJ (v43:ao) (v50:ao)
 | lB
 | BU (v43:ao) (v59:Int) (v65:Int) (v68:ao) (v69:ao) (v70:ao) (v71:ao)
 | wU (v43:ao) (v62:ao) (v63:ao) (v64:ao) (v86:ao) (v105:ao) (v106:ao) (v107:ao) (v108:ao) (v115:ao)
 | Af (v43:ao) (v56:ao) (v57:ao)
 | BT (v43:ao) (v47:Int) (v53:Int) (v56:ao) (v57:ao)
 | BS (v43:ao) (v56:ao) (v57:ao)
 | zu (v43:ao) (v56:ao) (v57:ao)
 | BR (v43:ao) (v59:Int) (v65:Int) (v68:ao) (v69:ao) (v70:ao) (v71:ao)
 | BQ (v43:ao) (v62:ao) (v63:ao) (v64:ao) (v86:ao) (v105:ao) (v106:ao) (v107:ao) (v108:ao) (v115:ao)
 | BP (v43:ao) (v59:Int) (v65:Int) (v68:ao) (v69:ao) (v70:ao) (v71:ao)
 | BO (v43:ao) (v62:ao) (v63:ao) (v64:ao) (v86:ao) (v105:ao) (v106:ao) (v107:ao) (v108:ao) (v115:ao)
 | BN (v43:ao) (v62:ao) (v63:ao) (v64:ao) (v86:ao) (v105:ao) (v106:ao) (v107:ao) (v108:ao) (v115:ao)
 | BM (v43:ao) (v62:ao) (v63:ao) (v64:ao) (v86:ao) (v105:ao) (v106:ao) (v107:ao) (v108:ao) (v115:ao)
 | BL (v43:ao) (v50:ao) (v72:ao) (v91:ao) (v92:ao) (v93:ao) (v94:ao) (v113:ao) (v114:ao) (v115:ao)
noncomputable def oX (x:DI):Tr (Ql⊕ck):=
 .ite ((al x.1 29)==false) (
 .ite ((al x.1 30)==false) (
 let y0:=x.2.1
 let y1:=((cK 15 y0)==false)
 .ite y1 (
 .ite ((!(al x.1 31))==true) (
 .ite ((dY y0 0)==false) (
 let y2:=((dY x.1 39)==true)
 .ite y2 (
 let y3:=(dY x.2.2.2.2.2.1 0)
 .ite y3 (
 let y4:ck:=((([]:List Int),(0,())),(((),((),(([]:List Int),(0,(0,0))))),false))
 .ret (.inr y4)) (
 .ret (.inl (.h0)))) (
 .ret (.inl (.h0)))) (
 let y5:ck:=((([]:List Int),(0,())),(((),((),(([]:List Int),(0,(0,0))))),false))
 .ret (.inr y5))) (
 let y6:=((dY x.1 39)==true)
 .ite y6 (
 let y7:=(dY x.2.2.2.2.2.1 0)
 .ite y7 (
 let y8:ck:=((([]:List Int),(0,())),(((),((),(([]:List Int),(0,(0,0))))),false))
 .ret (.inr y8)) (
 .ret (.inl (.h0)))) (
 .ret (.inl (.h0))))) (
 let y9:ck:=((([]:List Int),(0,())),(((),((),(([]:List Int),(0,(0,0))))),false))
 .ret (.inr y9))) (
 let y10:=x.2.1
 let y11:=((cK 15 y10)==false)
 .ite y11 (
 let y12:=((dY x.1 39)==true)
 .ite y12 (
 let y13:=(dY x.2.2.2.2.2.1 0)
 .ite y13 (
 let y14:ck:=((([]:List Int),(0,())),(((),((),(([]:List Int),(0,(0,0))))),false))
 .ret (.inr y14)) (
 .ret (.inl (.h0)))) (
 .ret (.inl (.h0)))) (
 let y15:ck:=((([]:List Int),(0,())),(((),((),(([]:List Int),(0,(0,0))))),false))
 .ret (.inr y15)))) (
 let y16:=x.2.1
 let y17:=((cK 15 y16)==false)
 .ite y17 (
 let y18:=((dY x.1 39)==true)
 .ite y18 (
 let y19:=(dY x.2.2.2.2.2.1 0)
 .ite y19 (
 let y20:ck:=((([]:List Int),(0,())),(((),((),(([]:List Int),(0,(0,0))))),false))
 .ret (.inr y20)) (
 .ret (.inl (.h0)))) (
 .ret (.inl (.h0)))) (
 let y21:ck:=((([]:List Int),(0,())),(((),((),(([]:List Int),(0,(0,0))))),false))
 .ret (.inr y21)))
noncomputable def ai (x:DI):Ql→Tr (Ql⊕ck)
 | .h0=>
 .aa ((0:Nat) < 8)<|
 .aa ((1:Nat) < 8)<|
 .aa ((2:Nat) < 8)<|
 .aa ((3:Nat) < 8)<|
 .aa ((4:Nat) < 8)<|
 .aa ((5:Nat) < 8)<|
 .aa ((6:Nat) < 8)<|
 .aa ((7:Nat) < 8)<|
 .aa (((0:Nat)+8:Nat)≤8)<|
 let y0:bF:=([3,4,5,6,7,8,9,10],x.1)
 .aa (xV y0)<|
 let y1:=(FT y0)
 .ite (b5 0 y1) (
 .aa ((0:Nat) < 1)<|
 .aa ((0:Nat) < 1)<|
 .aa ((0:Nat) < 1)<|
 .aa ((0:Nat) < 1)<|
 .aa ((0:Nat) < 2)<|
 .aa ((1:Nat) < 2)<|
 .aa ((0:Int)≤0)<|
 .aa (0 < (1:Int))<|
 .aa ((0:Int)≤0)<|
 .aa (0 < (4:Int))<|
 .aa (((0:Nat)+2:Nat)≤2)<|
 let y2:ao:=[4,8]
 let y3:=x.2.2
 let y4:=y3.1
 let y5:bF:=(y2,y4)
 .aa (aM y5)<|
 let y6:=((bf y5)==true)
 .ite y6 (
 let y7:=y3.2
 let y8:=y7.1
 .aa (dg y8)<|
 let y9:=((ef y8)==true)
 .ite y9 (
 let y10:=y7.2.1
 .aa (cY y10)<|
 let y11:=((dV y10)==true)
 .ite y11 (
 .aa (((0:Nat)+2:Nat)≤2)<|
 .aa (((0:Nat)+1:Nat)≤1)<|
 let y12:cC:=(0,())
 let y13:cj:=(y2,y12)
 let y14:Int:=(gH .i64 8 y1)
 let y15:ao:=[(aO .u8 (aU .i64 y14 1))]
 let y16:bN:=(1,0)
 let y17:bA:=((-1),y16)
 .ret (.inr (y13,(((),((),(y15,y17))),true)))) (
 let y18:Int:=(gH .i64 8 y1)
 let y19:ao:=[(aO .u8 (aU .i64 y18 1))]
 let y20:ao:=[(aO .u8 (aU .i64 y18 3))]
 .ret (.inl (.h1 y2 y1 y1 y19 y20 [131] [129])))) (
 let y21:Int:=(gH .i64 8 y1)
 let y22:ao:=[(aO .u8 (aU .i64 y21 1))]
 let y23:ao:=[(aO .u8 (aU .i64 y21 3))]
 .ret (.inl (.h1 y2 y1 y1 y22 y23 [131] [129])))) (
 let y24:Int:=(gH .i64 8 y1)
 let y25:ao:=[(aO .u8 (aU .i64 y24 1))]
 let y26:ao:=[(aO .u8 (aU .i64 y24 3))]
 .ret (.inl (.h1 y2 y1 y1 y25 y26 [131] [129])))) (
 .ite (al x.1 1) (
 .aa ((0:Nat) < 1)<|
 .aa ((0:Nat) < 1)<|
 .aa ((0:Nat) < 1)<|
 .aa ((0:Nat) < 1)<|
 .aa ((0:Nat) < 2)<|
 .aa ((1:Nat) < 2)<|
 .aa ((0:Nat) < 1)<|
 .aa ((0:Nat) < 1)<|
 .aa ((0:Nat) < 1)<|
 .aa ((0:Nat) < 1)<|
 .aa ((0:Nat) < 1)<|
 .aa ((0:Int)≤0)<|
 .aa (0 < (3:Int))<|
 .aa ((0:Int)≤0)<|
 .aa (0 < (3:Int))<|
 .aa (((0:Nat)+1:Nat)≤1)<|
 let y27:=x.2.2
 let y28:=y27.1
 let y29:bF:=([1],y28)
 .aa (aM y29)<|
 let y30:=((bf y29)==true)
 .ite y30 (
 let y31:=y27.2
 let y32:=y31.1
 .aa (dg y32)<|
 let y33:=((ef y32)==true)
 .ite y33 (
 let y34:=y31.2.1
 .aa (cY y34)<|
 let y35:=((dV y34)==true)
 .ite y35 (
 .aa (((0:Nat)+1:Nat)≤1)<|
 .aa (((0:Nat)+1:Nat)≤1)<|
 let y36:cC:=(0,())
 let y37:cj:=([1],y36)
 let y38:bN:=(1,0)
 let y39:bA:=((-1),y38)
 .ret (.inr (y37,(((),((),([136],y39))),true)))) (
 let y40:ao:=[4,8]
 .ret (.inl (.h2 [1] [136] [138] [198] y40 [137] [139] [199] [8] [184])))) (
 let y41:ao:=[4,8]
 .ret (.inl (.h2 [1] [136] [138] [198] y41 [137] [139] [199] [8] [184])))) (
 let y42:ao:=[4,8]
 .ret (.inl (.h2 [1] [136] [138] [198] y42 [137] [139] [199] [8] [184])))) (
 .ite (al x.1 2) (
 .aa ((0:Nat) < 1)<|
 .aa ((0:Nat) < 2)<|
 .aa ((1:Nat) < 2)<|
 .aa ((0:Int)≤0)<|
 .aa (0 < (1:Int))<|
 .aa ((0:Int)≤0)<|
 .aa (0 < (1:Int))<|
 .aa (((0:Nat)+2:Nat)≤2)<|
 let y43:ao:=[4,8]
 let y44:=x.2.2
 let y45:=y44.1
 let y46:bF:=(y43,y45)
 .aa (aM y46)<|
 let y47:=((bf y46)==true)
 .ite y47 (
 let y48:=y44.2
 let y49:=y48.1
 .aa (cY y49)<|
 let y50:=((dV y49)==true)
 .ite y50 (
 let y51:=y48.2.1
 .aa (ku y51)<|
 .ite ((oa y51)==true) (
 .aa (((0:Nat)+2:Nat)≤2)<|
 .aa (((0:Nat)+1:Nat)≤1)<|
 let y52:cC:=(0,())
 let y53:cj:=(y43,y52)
 let y54:bA:=((-1),(2,0))
 .ret (.inr (y53,(((),((),([141],y54))),true)))) (
 .ret (.inl (.h3 y43 [141])))) (
 .ret (.inl (.h3 y43 [141])))) (
 .ret (.inl (.h3 y43 [141])))) (
 .ite (al x.1 11) (
 .aa ((0:Nat) < 1)<|
 .aa ((0:Nat) < 1)<|
 .aa ((0:Nat) < 2)<|
 .aa ((1:Nat) < 2)<|
 .aa ((0:Int)≤0)<|
 .aa (0 < (1:Int))<|
 .aa ((0:Int)≤0)<|
 .aa (0 < (2:Int))<|
 .aa (((0:Nat)+2:Nat)≤2)<|
 let y55:ao:=[4,8]
 let y56:=x.2.2
 let y57:=y56.1
 let y58:bF:=(y55,y57)
 .aa (aM y58)<|
 let y59:=((bf y58)==true)
 .ite y59 (
 let y60:=y56.2
 let y61:=y60.1
 .aa (dg y61)<|
 let y62:=((ef y61)==true)
 .ite y62 (
 let y63:=y60.2.1
 .aa (cY y63)<|
 let y64:=((dV y63)==true)
 .ite y64 (
 .aa (((0:Nat)+2:Nat)≤2)<|
 .aa (((0:Nat)+1:Nat)≤1)<|
 let y65:cC:=(0,())
 let y66:cj:=(y55,y65)
 let y67:bN:=(1,0)
 let y68:bA:=((-1),y67)
 .ret (.inr (y66,(((),((),([133],y68))),true)))) (
 .ret (.inl (.h4 y55 [133] [247])))) (
 .ret (.inl (.h4 y55 [133] [247])))) (
 .ret (.inl (.h4 y55 [133] [247])))) (
 let y69:=(al x.1 12)
 .ite y69 (
 .aa ((0:Nat) < 1)<|
 .aa ((0:Nat) < 2)<|
 .aa ((1:Nat) < 2)<|
 .aa ((0:Int)≤0)<|
 .aa (0 < (1:Int))<|
 .aa ((0:Int)≤0)<|
 .aa (0 < (1:Int))<|
 .aa (((0:Nat)+2:Nat)≤2)<|
 let y70:ao:=[4,8]
 let y71:=x.2.2
 let y72:=y71.1
 let y73:bF:=(y70,y72)
 .aa (aM y73)<|
 let y74:=((bf y73)==true)
 .ite y74 (
 let y75:=y71.2
 let y76:=y75.1
 .aa (dg y76)<|
 let y77:=((ef y76)==true)
 .ite y77 (
 let y78:=y75.2.1
 .aa (a8 y78)<|
 let y79:=((bE y78)==true)
 .ite y79 (
 .aa (((0:Nat)+2:Nat)≤2)<|
 .aa (((0:Nat)+1:Nat)≤1)<|
 let y80:cC:=(0,())
 let y81:cj:=(y70,y80)
 let y82:=(al x.1 13)
 let y83:=(al x.1 15)
 let y84:=(al x.1 14)
 let y85:=(al x.1 22)
 let y86:=(al x.1 23)
 let y87:=(al x.1 19)
 let y88:=(al x.1 20)
 let y89:=(al x.1 16)
 let y90:=(al x.1 17)
 let y91:=(al x.1 18)
 let y92:Int:=(cond y69 0 (cond y82 1 (cond y83 2 (cond y84 3 (cond y85 4 (cond y86 6 (cond y87 0 (cond y88 1 (cond y89 4 (cond y90 5 (cond y91 7 0)))))))))))
 let y93:bN:=(1,0)
 let y94:bA:=(y92,y93)
 let y95:ck:=(y81,(((),((),([255],y94))),true))
 .ret (.inr y95)) (
 let y96:=(al x.1 13)
 let y97:=(al x.1 15)
 let y98:=(al x.1 14)
 let y99:=(al x.1 22)
 let y100:=(al x.1 23)
 let y101:=(al x.1 19)
 let y102:=(al x.1 20)
 let y103:=(al x.1 16)
 let y104:=(al x.1 17)
 let y105:=(al x.1 18)
 let y106:Int:=(cond y69 0 (cond y96 1 (cond y97 2 (cond y98 3 (cond y99 4 (cond y100 6 (cond y101 0 (cond y102 1 (cond y103 4 (cond y104 5 (cond y105 7 0)))))))))))
 .ret (.inl (.h5 y70 y106 [255])))) (
 let y107:=(al x.1 13)
 let y108:=(al x.1 15)
 let y109:=(al x.1 14)
 let y110:=(al x.1 22)
 let y111:=(al x.1 23)
 let y112:=(al x.1 19)
 let y113:=(al x.1 20)
 let y114:=(al x.1 16)
 let y115:=(al x.1 17)
 let y116:=(al x.1 18)
 let y117:Int:=(cond y69 0 (cond y107 1 (cond y108 2 (cond y109 3 (cond y110 4 (cond y111 6 (cond y112 0 (cond y113 1 (cond y114 4 (cond y115 5 (cond y116 7 0)))))))))))
 .ret (.inl (.h5 y70 y117 [255])))) (
 let y118:=(al x.1 13)
 let y119:=(al x.1 15)
 let y120:=(al x.1 14)
 let y121:=(al x.1 22)
 let y122:=(al x.1 23)
 let y123:=(al x.1 19)
 let y124:=(al x.1 20)
 let y125:=(al x.1 16)
 let y126:=(al x.1 17)
 let y127:=(al x.1 18)
 let y128:Int:=(cond y69 0 (cond y118 1 (cond y119 2 (cond y120 3 (cond y121 4 (cond y122 6 (cond y123 0 (cond y124 1 (cond y125 4 (cond y126 5 (cond y127 7 0)))))))))))
 .ret (.inl (.h5 y70 y128 [255])))) (
 let y129:=(al x.1 13)
 .ite y129 (
 .aa ((0:Nat) < 1)<|
 .aa ((0:Nat) < 2)<|
 .aa ((1:Nat) < 2)<|
 .aa ((0:Int)≤0)<|
 .aa (0 < (1:Int))<|
 .aa ((0:Int)≤0)<|
 .aa (0 < (1:Int))<|
 .aa (((0:Nat)+2:Nat)≤2)<|
 let y130:ao:=[4,8]
 let y131:=x.2.2
 let y132:=y131.1
 let y133:bF:=(y130,y132)
 .aa (aM y133)<|
 let y134:=((bf y133)==true)
 .ite y134 (
 let y135:=y131.2
 let y136:=y135.1
 .aa (dg y136)<|
 let y137:=((ef y136)==true)
 .ite y137 (
 let y138:=y135.2.1
 .aa (a8 y138)<|
 let y139:=((bE y138)==true)
 .ite y139 (
 .aa (((0:Nat)+2:Nat)≤2)<|
 .aa (((0:Nat)+1:Nat)≤1)<|
 let y140:cC:=(0,())
 let y141:cj:=(y130,y140)
 let y142:=(al x.1 15)
 let y143:=(al x.1 14)
 let y144:=(al x.1 22)
 let y145:=(al x.1 23)
 let y146:=(al x.1 19)
 let y147:=(al x.1 20)
 let y148:=(al x.1 16)
 let y149:=(al x.1 17)
 let y150:=(al x.1 18)
 let y151:Int:=(cond y69 0 (cond y129 1 (cond y142 2 (cond y143 3 (cond y144 4 (cond y145 6 (cond y146 0 (cond y147 1 (cond y148 4 (cond y149 5 (cond y150 7 0)))))))))))
 let y152:bN:=(1,0)
 let y153:bA:=(y151,y152)
 let y154:ck:=(y141,(((),((),([255],y153))),true))
 .ret (.inr y154)) (
 let y155:=(al x.1 15)
 let y156:=(al x.1 14)
 let y157:=(al x.1 22)
 let y158:=(al x.1 23)
 let y159:=(al x.1 19)
 let y160:=(al x.1 20)
 let y161:=(al x.1 16)
 let y162:=(al x.1 17)
 let y163:=(al x.1 18)
 let y164:Int:=(cond y69 0 (cond y129 1 (cond y155 2 (cond y156 3 (cond y157 4 (cond y158 6 (cond y159 0 (cond y160 1 (cond y161 4 (cond y162 5 (cond y163 7 0)))))))))))
 .ret (.inl (.h5 y130 y164 [255])))) (
 let y165:=(al x.1 15)
 let y166:=(al x.1 14)
 let y167:=(al x.1 22)
 let y168:=(al x.1 23)
 let y169:=(al x.1 19)
 let y170:=(al x.1 20)
 let y171:=(al x.1 16)
 let y172:=(al x.1 17)
 let y173:=(al x.1 18)
 let y174:Int:=(cond y69 0 (cond y129 1 (cond y165 2 (cond y166 3 (cond y167 4 (cond y168 6 (cond y169 0 (cond y170 1 (cond y171 4 (cond y172 5 (cond y173 7 0)))))))))))
 .ret (.inl (.h5 y130 y174 [255])))) (
 let y175:=(al x.1 15)
 let y176:=(al x.1 14)
 let y177:=(al x.1 22)
 let y178:=(al x.1 23)
 let y179:=(al x.1 19)
 let y180:=(al x.1 20)
 let y181:=(al x.1 16)
 let y182:=(al x.1 17)
 let y183:=(al x.1 18)
 let y184:Int:=(cond y69 0 (cond y129 1 (cond y175 2 (cond y176 3 (cond y177 4 (cond y178 6 (cond y179 0 (cond y180 1 (cond y181 4 (cond y182 5 (cond y183 7 0)))))))))))
 .ret (.inl (.h5 y130 y184 [255])))) (
 let y185:=(al x.1 15)
 .ite y185 (
 .aa ((0:Nat) < 1)<|
 .aa ((0:Nat) < 2)<|
 .aa ((1:Nat) < 2)<|
 .aa ((0:Int)≤0)<|
 .aa (0 < (1:Int))<|
 .aa ((0:Int)≤0)<|
 .aa (0 < (1:Int))<|
 .aa (((0:Nat)+2:Nat)≤2)<|
 let y186:ao:=[4,8]
 let y187:=x.2.2
 let y188:=y187.1
 let y189:bF:=(y186,y188)
 .aa (aM y189)<|
 let y190:=((bf y189)==true)
 .ite y190 (
 let y191:=y187.2
 let y192:=y191.1
 .aa (dg y192)<|
 let y193:=((ef y192)==true)
 .ite y193 (
 let y194:=y191.2.1
 .aa (a8 y194)<|
 let y195:=((bE y194)==true)
 .ite y195 (
 .aa (((0:Nat)+2:Nat)≤2)<|
 .aa (((0:Nat)+1:Nat)≤1)<|
 let y196:cC:=(0,())
 let y197:cj:=(y186,y196)
 let y198:=(al x.1 14)
 let y199:=(al x.1 22)
 let y200:=(al x.1 23)
 let y201:=(al x.1 19)
 let y202:=(al x.1 20)
 let y203:=(al x.1 16)
 let y204:=(al x.1 17)
 let y205:=(al x.1 18)
 let y206:Int:=(cond y69 0 (cond y129 1 (cond y185 2 (cond y198 3 (cond y199 4 (cond y200 6 (cond y201 0 (cond y202 1 (cond y203 4 (cond y204 5 (cond y205 7 0)))))))))))
 let y207:bN:=(1,0)
 let y208:bA:=(y206,y207)
 let y209:ck:=(y197,(((),((),([247],y208))),true))
 .ret (.inr y209)) (
 let y210:=(al x.1 14)
 let y211:=(al x.1 22)
 let y212:=(al x.1 23)
 let y213:=(al x.1 19)
 let y214:=(al x.1 20)
 let y215:=(al x.1 16)
 let y216:=(al x.1 17)
 let y217:=(al x.1 18)
 let y218:Int:=(cond y69 0 (cond y129 1 (cond y185 2 (cond y210 3 (cond y211 4 (cond y212 6 (cond y213 0 (cond y214 1 (cond y215 4 (cond y216 5 (cond y217 7 0)))))))))))
 .ret (.inl (.h5 y186 y218 [247])))) (
 let y219:=(al x.1 14)
 let y220:=(al x.1 22)
 let y221:=(al x.1 23)
 let y222:=(al x.1 19)
 let y223:=(al x.1 20)
 let y224:=(al x.1 16)
 let y225:=(al x.1 17)
 let y226:=(al x.1 18)
 let y227:Int:=(cond y69 0 (cond y129 1 (cond y185 2 (cond y219 3 (cond y220 4 (cond y221 6 (cond y222 0 (cond y223 1 (cond y224 4 (cond y225 5 (cond y226 7 0)))))))))))
 .ret (.inl (.h5 y186 y227 [247])))) (
 let y228:=(al x.1 14)
 let y229:=(al x.1 22)
 let y230:=(al x.1 23)
 let y231:=(al x.1 19)
 let y232:=(al x.1 20)
 let y233:=(al x.1 16)
 let y234:=(al x.1 17)
 let y235:=(al x.1 18)
 let y236:Int:=(cond y69 0 (cond y129 1 (cond y185 2 (cond y228 3 (cond y229 4 (cond y230 6 (cond y231 0 (cond y232 1 (cond y233 4 (cond y234 5 (cond y235 7 0)))))))))))
 .ret (.inl (.h5 y186 y236 [247])))) (
 let y237:=(al x.1 14)
 .ite y237 (
 .aa ((0:Nat) < 1)<|
 .aa ((0:Nat) < 2)<|
 .aa ((1:Nat) < 2)<|
 .aa ((0:Int)≤0)<|
 .aa (0 < (1:Int))<|
 .aa ((0:Int)≤0)<|
 .aa (0 < (1:Int))<|
 .aa (((0:Nat)+2:Nat)≤2)<|
 let y238:ao:=[4,8]
 let y239:=x.2.2
 let y240:=y239.1
 let y241:bF:=(y238,y240)
 .aa (aM y241)<|
 let y242:=((bf y241)==true)
 .ite y242 (
 let y243:=y239.2
 let y244:=y243.1
 .aa (dg y244)<|
 let y245:=((ef y244)==true)
 .ite y245 (
 let y246:=y243.2.1
 .aa (a8 y246)<|
 let y247:=((bE y246)==true)
 .ite y247 (
 .aa (((0:Nat)+2:Nat)≤2)<|
 .aa (((0:Nat)+1:Nat)≤1)<|
 let y248:cC:=(0,())
 let y249:cj:=(y238,y248)
 let y250:=(al x.1 22)
 let y251:=(al x.1 23)
 let y252:=(al x.1 19)
 let y253:=(al x.1 20)
 let y254:=(al x.1 16)
 let y255:=(al x.1 17)
 let y256:=(al x.1 18)
 let y257:Int:=(cond y69 0 (cond y129 1 (cond y185 2 (cond y237 3 (cond y250 4 (cond y251 6 (cond y252 0 (cond y253 1 (cond y254 4 (cond y255 5 (cond y256 7 0)))))))))))
 let y258:bN:=(1,0)
 let y259:bA:=(y257,y258)
 let y260:ck:=(y249,(((),((),([247],y259))),true))
 .ret (.inr y260)) (
 let y261:=(al x.1 22)
 let y262:=(al x.1 23)
 let y263:=(al x.1 19)
 let y264:=(al x.1 20)
 let y265:=(al x.1 16)
 let y266:=(al x.1 17)
 let y267:=(al x.1 18)
 let y268:Int:=(cond y69 0 (cond y129 1 (cond y185 2 (cond y237 3 (cond y261 4 (cond y262 6 (cond y263 0 (cond y264 1 (cond y265 4 (cond y266 5 (cond y267 7 0)))))))))))
 .ret (.inl (.h5 y238 y268 [247])))) (
 let y269:=(al x.1 22)
 let y270:=(al x.1 23)
 let y271:=(al x.1 19)
 let y272:=(al x.1 20)
 let y273:=(al x.1 16)
 let y274:=(al x.1 17)
 let y275:=(al x.1 18)
 let y276:Int:=(cond y69 0 (cond y129 1 (cond y185 2 (cond y237 3 (cond y269 4 (cond y270 6 (cond y271 0 (cond y272 1 (cond y273 4 (cond y274 5 (cond y275 7 0)))))))))))
 .ret (.inl (.h5 y238 y276 [247])))) (
 let y277:=(al x.1 22)
 let y278:=(al x.1 23)
 let y279:=(al x.1 19)
 let y280:=(al x.1 20)
 let y281:=(al x.1 16)
 let y282:=(al x.1 17)
 let y283:=(al x.1 18)
 let y284:Int:=(cond y69 0 (cond y129 1 (cond y185 2 (cond y237 3 (cond y277 4 (cond y278 6 (cond y279 0 (cond y280 1 (cond y281 4 (cond y282 5 (cond y283 7 0)))))))))))
 .ret (.inl (.h5 y238 y284 [247])))) (
 let y285:=(al x.1 22)
 .ite y285 (
 .aa ((0:Nat) < 1)<|
 .aa ((0:Nat) < 2)<|
 .aa ((1:Nat) < 2)<|
 .aa ((0:Int)≤0)<|
 .aa (0 < (1:Int))<|
 .aa ((0:Int)≤0)<|
 .aa (0 < (1:Int))<|
 .aa (((0:Nat)+2:Nat)≤2)<|
 let y286:ao:=[4,8]
 let y287:=x.2.2
 let y288:=y287.1
 let y289:bF:=(y286,y288)
 .aa (aM y289)<|
 let y290:=((bf y289)==true)
 .ite y290 (
 let y291:=y287.2
 let y292:=y291.1
 .aa (dg y292)<|
 let y293:=((ef y292)==true)
 .ite y293 (
 let y294:=y291.2.1
 .aa (a8 y294)<|
 let y295:=((bE y294)==true)
 .ite y295 (
 .aa (((0:Nat)+2:Nat)≤2)<|
 .aa (((0:Nat)+1:Nat)≤1)<|
 let y296:cC:=(0,())
 let y297:cj:=(y286,y296)
 let y298:=(al x.1 23)
 let y299:=(al x.1 19)
 let y300:=(al x.1 20)
 let y301:=(al x.1 16)
 let y302:=(al x.1 17)
 let y303:=(al x.1 18)
 let y304:Int:=(cond y69 0 (cond y129 1 (cond y185 2 (cond y237 3 (cond y285 4 (cond y298 6 (cond y299 0 (cond y300 1 (cond y301 4 (cond y302 5 (cond y303 7 0)))))))))))
 let y305:bN:=(1,0)
 let y306:bA:=(y304,y305)
 let y307:ck:=(y297,(((),((),([247],y306))),true))
 .ret (.inr y307)) (
 let y308:=(al x.1 23)
 let y309:=(al x.1 19)
 let y310:=(al x.1 20)
 let y311:=(al x.1 16)
 let y312:=(al x.1 17)
 let y313:=(al x.1 18)
 let y314:Int:=(cond y69 0 (cond y129 1 (cond y185 2 (cond y237 3 (cond y285 4 (cond y308 6 (cond y309 0 (cond y310 1 (cond y311 4 (cond y312 5 (cond y313 7 0)))))))))))
 .ret (.inl (.h5 y286 y314 [247])))) (
 let y315:=(al x.1 23)
 let y316:=(al x.1 19)
 let y317:=(al x.1 20)
 let y318:=(al x.1 16)
 let y319:=(al x.1 17)
 let y320:=(al x.1 18)
 let y321:Int:=(cond y69 0 (cond y129 1 (cond y185 2 (cond y237 3 (cond y285 4 (cond y315 6 (cond y316 0 (cond y317 1 (cond y318 4 (cond y319 5 (cond y320 7 0)))))))))))
 .ret (.inl (.h5 y286 y321 [247])))) (
 let y322:=(al x.1 23)
 let y323:=(al x.1 19)
 let y324:=(al x.1 20)
 let y325:=(al x.1 16)
 let y326:=(al x.1 17)
 let y327:=(al x.1 18)
 let y328:Int:=(cond y69 0 (cond y129 1 (cond y185 2 (cond y237 3 (cond y285 4 (cond y322 6 (cond y323 0 (cond y324 1 (cond y325 4 (cond y326 5 (cond y327 7 0)))))))))))
 .ret (.inl (.h5 y286 y328 [247])))) (
 let y329:=(al x.1 23)
 .ite y329 (
 .aa ((0:Nat) < 1)<|
 .aa ((0:Nat) < 2)<|
 .aa ((1:Nat) < 2)<|
 .aa ((0:Int)≤0)<|
 .aa (0 < (1:Int))<|
 .aa ((0:Int)≤0)<|
 .aa (0 < (1:Int))<|
 .aa (((0:Nat)+2:Nat)≤2)<|
 let y330:ao:=[4,8]
 let y331:=x.2.2
 let y332:=y331.1
 let y333:bF:=(y330,y332)
 .aa (aM y333)<|
 let y334:=((bf y333)==true)
 .ite y334 (
 let y335:=y331.2
 let y336:=y335.1
 .aa (dg y336)<|
 let y337:=((ef y336)==true)
 .ite y337 (
 let y338:=y335.2.1
 .aa (a8 y338)<|
 let y339:=((bE y338)==true)
 .ite y339 (
 .aa (((0:Nat)+2:Nat)≤2)<|
 .aa (((0:Nat)+1:Nat)≤1)<|
 let y340:cC:=(0,())
 let y341:cj:=(y330,y340)
 let y342:=(al x.1 19)
 let y343:=(al x.1 20)
 let y344:=(al x.1 16)
 let y345:=(al x.1 17)
 let y346:=(al x.1 18)
 let y347:Int:=(cond y69 0 (cond y129 1 (cond y185 2 (cond y237 3 (cond y285 4 (cond y329 6 (cond y342 0 (cond y343 1 (cond y344 4 (cond y345 5 (cond y346 7 0)))))))))))
 let y348:bN:=(1,0)
 let y349:bA:=(y347,y348)
 let y350:ck:=(y341,(((),((),([247],y349))),true))
 .ret (.inr y350)) (
 let y351:=(al x.1 19)
 let y352:=(al x.1 20)
 let y353:=(al x.1 16)
 let y354:=(al x.1 17)
 let y355:=(al x.1 18)
 let y356:Int:=(cond y69 0 (cond y129 1 (cond y185 2 (cond y237 3 (cond y285 4 (cond y329 6 (cond y351 0 (cond y352 1 (cond y353 4 (cond y354 5 (cond y355 7 0)))))))))))
 .ret (.inl (.h5 y330 y356 [247])))) (
 let y357:=(al x.1 19)
 let y358:=(al x.1 20)
 let y359:=(al x.1 16)
 let y360:=(al x.1 17)
 let y361:=(al x.1 18)
 let y362:Int:=(cond y69 0 (cond y129 1 (cond y185 2 (cond y237 3 (cond y285 4 (cond y329 6 (cond y357 0 (cond y358 1 (cond y359 4 (cond y360 5 (cond y361 7 0)))))))))))
 .ret (.inl (.h5 y330 y362 [247])))) (
 let y363:=(al x.1 19)
 let y364:=(al x.1 20)
 let y365:=(al x.1 16)
 let y366:=(al x.1 17)
 let y367:=(al x.1 18)
 let y368:Int:=(cond y69 0 (cond y129 1 (cond y185 2 (cond y237 3 (cond y285 4 (cond y329 6 (cond y363 0 (cond y364 1 (cond y365 4 (cond y366 5 (cond y367 7 0)))))))))))
 .ret (.inl (.h5 y330 y368 [247])))) (
 let y369:=(al x.1 19)
 .ite y369 (
 .aa ((0:Nat) < 1)<|
 .aa ((0:Nat) < 1)<|
 .aa ((0:Nat) < 2)<|
 .aa ((1:Nat) < 2)<|
 .aa ((0:Int)≤0)<|
 .aa (0 < (1:Int))<|
 .aa ((0:Int)≤0)<|
 .aa (0 < (2:Int))<|
 .aa (((0:Nat)+2:Nat)≤2)<|
 let y370:ao:=[4,8]
 let y371:=x.2.2
 let y372:=y371.1
 let y373:bF:=(y370,y372)
 .aa (aM y373)<|
 let y374:=((bf y373)==true)
 .ite y374 (
 let y375:=y371.2
 let y376:=y375.1
 .aa (dg y376)<|
 let y377:=((ef y376)==true)
 .ite y377 (
 let y378:=y375.2.1
 .aa (lq y378)<|
 let y379:=((qL y378)==true)
 .ite y379 (
 .aa (((0:Nat)+2:Nat)≤2)<|
 .aa (((0:Nat)+1:Nat)≤1)<|
 let y380:cC:=(0,())
 let y381:cj:=(y370,y380)
 let y382:=(al x.1 20)
 let y383:=(al x.1 16)
 let y384:=(al x.1 17)
 let y385:=(al x.1 18)
 let y386:Int:=(cond y69 0 (cond y129 1 (cond y185 2 (cond y237 3 (cond y285 4 (cond y329 6 (cond y369 0 (cond y382 1 (cond y383 4 (cond y384 5 (cond y385 7 0)))))))))))
 let y387:ck:=(y381,(((),((),([193],(y386,(1,1))))),true))
 .ret (.inr y387)) (
 let y388:=(al x.1 20)
 let y389:=(al x.1 16)
 let y390:=(al x.1 17)
 let y391:=(al x.1 18)
 let y392:Int:=(cond y69 0 (cond y129 1 (cond y185 2 (cond y237 3 (cond y285 4 (cond y329 6 (cond y369 0 (cond y388 1 (cond y389 4 (cond y390 5 (cond y391 7 0)))))))))))
 .ret (.inl (.h6 y370 y392 y392 [193] [211])))) (
 let y393:=(al x.1 20)
 let y394:=(al x.1 16)
 let y395:=(al x.1 17)
 let y396:=(al x.1 18)
 let y397:Int:=(cond y69 0 (cond y129 1 (cond y185 2 (cond y237 3 (cond y285 4 (cond y329 6 (cond y369 0 (cond y393 1 (cond y394 4 (cond y395 5 (cond y396 7 0)))))))))))
 .ret (.inl (.h6 y370 y397 y397 [193] [211])))) (
 let y398:=(al x.1 20)
 let y399:=(al x.1 16)
 let y400:=(al x.1 17)
 let y401:=(al x.1 18)
 let y402:Int:=(cond y69 0 (cond y129 1 (cond y185 2 (cond y237 3 (cond y285 4 (cond y329 6 (cond y369 0 (cond y398 1 (cond y399 4 (cond y400 5 (cond y401 7 0)))))))))))
 .ret (.inl (.h6 y370 y402 y402 [193] [211])))) (
 let y403:=(al x.1 20)
 .ite y403 (
 .aa ((0:Nat) < 1)<|
 .aa ((0:Nat) < 1)<|
 .aa ((0:Nat) < 2)<|
 .aa ((1:Nat) < 2)<|
 .aa ((0:Int)≤0)<|
 .aa (0 < (1:Int))<|
 .aa ((0:Int)≤0)<|
 .aa (0 < (2:Int))<|
 .aa (((0:Nat)+2:Nat)≤2)<|
 let y404:ao:=[4,8]
 let y405:=x.2.2
 let y406:=y405.1
 let y407:bF:=(y404,y406)
 .aa (aM y407)<|
 let y408:=((bf y407)==true)
 .ite y408 (
 let y409:=y405.2
 let y410:=y409.1
 .aa (dg y410)<|
 let y411:=((ef y410)==true)
 .ite y411 (
 let y412:=y409.2.1
 .aa (lq y412)<|
 let y413:=((qL y412)==true)
 .ite y413 (
 .aa (((0:Nat)+2:Nat)≤2)<|
 .aa (((0:Nat)+1:Nat)≤1)<|
 let y414:cC:=(0,())
 let y415:cj:=(y404,y414)
 let y416:=(al x.1 16)
 let y417:=(al x.1 17)
 let y418:=(al x.1 18)
 let y419:Int:=(cond y69 0 (cond y129 1 (cond y185 2 (cond y237 3 (cond y285 4 (cond y329 6 (cond y369 0 (cond y403 1 (cond y416 4 (cond y417 5 (cond y418 7 0)))))))))))
 let y420:ck:=(y415,(((),((),([193],(y419,(1,1))))),true))
 .ret (.inr y420)) (
 let y421:=(al x.1 16)
 let y422:=(al x.1 17)
 let y423:=(al x.1 18)
 let y424:Int:=(cond y69 0 (cond y129 1 (cond y185 2 (cond y237 3 (cond y285 4 (cond y329 6 (cond y369 0 (cond y403 1 (cond y421 4 (cond y422 5 (cond y423 7 0)))))))))))
 .ret (.inl (.h6 y404 y424 y424 [193] [211])))) (
 let y425:=(al x.1 16)
 let y426:=(al x.1 17)
 let y427:=(al x.1 18)
 let y428:Int:=(cond y69 0 (cond y129 1 (cond y185 2 (cond y237 3 (cond y285 4 (cond y329 6 (cond y369 0 (cond y403 1 (cond y425 4 (cond y426 5 (cond y427 7 0)))))))))))
 .ret (.inl (.h6 y404 y428 y428 [193] [211])))) (
 let y429:=(al x.1 16)
 let y430:=(al x.1 17)
 let y431:=(al x.1 18)
 let y432:Int:=(cond y69 0 (cond y129 1 (cond y185 2 (cond y237 3 (cond y285 4 (cond y329 6 (cond y369 0 (cond y403 1 (cond y429 4 (cond y430 5 (cond y431 7 0)))))))))))
 .ret (.inl (.h6 y404 y432 y432 [193] [211])))) (
 let y433:=(al x.1 16)
 .ite y433 (
 .aa ((0:Nat) < 1)<|
 .aa ((0:Nat) < 1)<|
 .aa ((0:Nat) < 2)<|
 .aa ((1:Nat) < 2)<|
 .aa ((0:Int)≤0)<|
 .aa (0 < (1:Int))<|
 .aa ((0:Int)≤0)<|
 .aa (0 < (2:Int))<|
 .aa (((0:Nat)+2:Nat)≤2)<|
 let y434:ao:=[4,8]
 let y435:=x.2.2
 let y436:=y435.1
 let y437:bF:=(y434,y436)
 .aa (aM y437)<|
 let y438:=((bf y437)==true)
 .ite y438 (
 let y439:=y435.2
 let y440:=y439.1
 .aa (dg y440)<|
 let y441:=((ef y440)==true)
 .ite y441 (
 let y442:=y439.2.1
 .aa (lq y442)<|
 let y443:=((qL y442)==true)
 .ite y443 (
 .aa (((0:Nat)+2:Nat)≤2)<|
 .aa (((0:Nat)+1:Nat)≤1)<|
 let y444:cC:=(0,())
 let y445:cj:=(y434,y444)
 let y446:=(al x.1 17)
 let y447:=(al x.1 18)
 let y448:Int:=(cond y69 0 (cond y129 1 (cond y185 2 (cond y237 3 (cond y285 4 (cond y329 6 (cond y369 0 (cond y403 1 (cond y433 4 (cond y446 5 (cond y447 7 0)))))))))))
 let y449:ck:=(y445,(((),((),([193],(y448,(1,1))))),true))
 .ret (.inr y449)) (
 let y450:=(al x.1 17)
 let y451:=(al x.1 18)
 let y452:Int:=(cond y69 0 (cond y129 1 (cond y185 2 (cond y237 3 (cond y285 4 (cond y329 6 (cond y369 0 (cond y403 1 (cond y433 4 (cond y450 5 (cond y451 7 0)))))))))))
 .ret (.inl (.h6 y434 y452 y452 [193] [211])))) (
 let y453:=(al x.1 17)
 let y454:=(al x.1 18)
 let y455:Int:=(cond y69 0 (cond y129 1 (cond y185 2 (cond y237 3 (cond y285 4 (cond y329 6 (cond y369 0 (cond y403 1 (cond y433 4 (cond y453 5 (cond y454 7 0)))))))))))
 .ret (.inl (.h6 y434 y455 y455 [193] [211])))) (
 let y456:=(al x.1 17)
 let y457:=(al x.1 18)
 let y458:Int:=(cond y69 0 (cond y129 1 (cond y185 2 (cond y237 3 (cond y285 4 (cond y329 6 (cond y369 0 (cond y403 1 (cond y433 4 (cond y456 5 (cond y457 7 0)))))))))))
 .ret (.inl (.h6 y434 y458 y458 [193] [211])))) (
 let y459:=(al x.1 17)
 .ite y459 (
 .aa ((0:Nat) < 1)<|
 .aa ((0:Nat) < 1)<|
 .aa ((0:Nat) < 2)<|
 .aa ((1:Nat) < 2)<|
 .aa ((0:Int)≤0)<|
 .aa (0 < (1:Int))<|
 .aa ((0:Int)≤0)<|
 .aa (0 < (2:Int))<|
 .aa (((0:Nat)+2:Nat)≤2)<|
 let y460:ao:=[4,8]
 let y461:=x.2.2
 let y462:=y461.1
 let y463:bF:=(y460,y462)
 .aa (aM y463)<|
 let y464:=((bf y463)==true)
 .ite y464 (
 let y465:=y461.2
 let y466:=y465.1
 .aa (dg y466)<|
 let y467:=((ef y466)==true)
 .ite y467 (
 let y468:=y465.2.1
 .aa (lq y468)<|
 let y469:=((qL y468)==true)
 .ite y469 (
 .aa (((0:Nat)+2:Nat)≤2)<|
 .aa (((0:Nat)+1:Nat)≤1)<|
 let y470:cC:=(0,())
 let y471:cj:=(y460,y470)
 let y472:=(al x.1 18)
 let y473:Int:=(cond y69 0 (cond y129 1 (cond y185 2 (cond y237 3 (cond y285 4 (cond y329 6 (cond y369 0 (cond y403 1 (cond y433 4 (cond y459 5 (cond y472 7 0)))))))))))
 let y474:ck:=(y471,(((),((),([193],(y473,(1,1))))),true))
 .ret (.inr y474)) (
 let y475:=(al x.1 18)
 let y476:Int:=(cond y69 0 (cond y129 1 (cond y185 2 (cond y237 3 (cond y285 4 (cond y329 6 (cond y369 0 (cond y403 1 (cond y433 4 (cond y459 5 (cond y475 7 0)))))))))))
 .ret (.inl (.h6 y460 y476 y476 [193] [211])))) (
 let y477:=(al x.1 18)
 let y478:Int:=(cond y69 0 (cond y129 1 (cond y185 2 (cond y237 3 (cond y285 4 (cond y329 6 (cond y369 0 (cond y403 1 (cond y433 4 (cond y459 5 (cond y477 7 0)))))))))))
 .ret (.inl (.h6 y460 y478 y478 [193] [211])))) (
 let y479:=(al x.1 18)
 let y480:Int:=(cond y69 0 (cond y129 1 (cond y185 2 (cond y237 3 (cond y285 4 (cond y329 6 (cond y369 0 (cond y403 1 (cond y433 4 (cond y459 5 (cond y479 7 0)))))))))))
 .ret (.inl (.h6 y460 y480 y480 [193] [211])))) (
 let y481:=(al x.1 18)
 .ite y481 (
 .aa ((0:Nat) < 1)<|
 .aa ((0:Nat) < 1)<|
 .aa ((0:Nat) < 2)<|
 .aa ((1:Nat) < 2)<|
 .aa ((0:Int)≤0)<|
 .aa (0 < (1:Int))<|
 .aa ((0:Int)≤0)<|
 .aa (0 < (2:Int))<|
 .aa (((0:Nat)+2:Nat)≤2)<|
 let y482:ao:=[4,8]
 let y483:=x.2.2
 let y484:=y483.1
 let y485:bF:=(y482,y484)
 .aa (aM y485)<|
 let y486:=((bf y485)==true)
 .ite y486 (
 let y487:=y483.2
 let y488:=y487.1
 .aa (dg y488)<|
 let y489:=((ef y488)==true)
 .ite y489 (
 let y490:=y487.2.1
 .aa (lq y490)<|
 let y491:=((qL y490)==true)
 .ite y491 (
 .aa (((0:Nat)+2:Nat)≤2)<|
 .aa (((0:Nat)+1:Nat)≤1)<|
 let y492:cC:=(0,())
 let y493:cj:=(y482,y492)
 let y494:Int:=(cond y69 0 (cond y129 1 (cond y185 2 (cond y237 3 (cond y285 4 (cond y329 6 (cond y369 0 (cond y403 1 (cond y433 4 (cond y459 5 (cond y481 7 0)))))))))))
 let y495:ck:=(y493,(((),((),([193],(y494,(1,1))))),true))
 .ret (.inr y495)) (
 let y496:Int:=(cond y69 0 (cond y129 1 (cond y185 2 (cond y237 3 (cond y285 4 (cond y329 6 (cond y369 0 (cond y403 1 (cond y433 4 (cond y459 5 (cond y481 7 0)))))))))))
 .ret (.inl (.h6 y482 y496 y496 [193] [211])))) (
 let y497:Int:=(cond y69 0 (cond y129 1 (cond y185 2 (cond y237 3 (cond y285 4 (cond y329 6 (cond y369 0 (cond y403 1 (cond y433 4 (cond y459 5 (cond y481 7 0)))))))))))
 .ret (.inl (.h6 y482 y497 y497 [193] [211])))) (
 let y498:Int:=(cond y69 0 (cond y129 1 (cond y185 2 (cond y237 3 (cond y285 4 (cond y329 6 (cond y369 0 (cond y403 1 (cond y433 4 (cond y459 5 (cond y481 7 0)))))))))))
 .ret (.inl (.h6 y482 y498 y498 [193] [211])))) (
 .ite (al x.1 21) (
 .aa ((0:Nat) < 2)<|
 .aa ((1:Nat) < 2)<|
 .aa ((0:Nat) < 2)<|
 .aa ((1:Nat) < 2)<|
 .aa ((0:Int)≤0)<|
 .aa (0 < (1:Int))<|
 .aa ((0:Int)≤0)<|
 .aa (0 < (1:Int))<|
 .aa (((0:Nat)+2:Nat)≤2)<|
 let y499:ao:=[4,8]
 let y500:=x.2.2
 let y501:=y500.1
 let y502:bF:=(y499,y501)
 .aa (aM y502)<|
 let y503:=((bf y502)==true)
 .ite y503 (
 let y504:=y500.2
 let y505:=y504.1
 .aa (cY y505)<|
 let y506:=((dV y505)==true)
 .ite y506 (
 let y507:=y504.2.1
 .aa (dg y507)<|
 let y508:=((ef y507)==true)
 .ite y508 (
 .aa (((0:Nat)+2:Nat)≤2)<|
 .aa (((0:Nat)+2:Nat)≤2)<|
 let y509:cC:=(0,())
 let y510:cj:=(y499,y509)
 let y511:ao:=[15,175]
 let y512:bA:=((-1),(2,0))
 .ret (.inr (y510,(((),((),(y511,y512))),true)))) (
 let y513:ao:=[15,175]
 .ret (.inl (.h7 y499 y513)))) (
 let y514:ao:=[15,175]
 .ret (.inl (.h7 y499 y514)))) (
 let y515:ao:=[15,175]
 .ret (.inl (.h7 y499 y515)))) (
 .ite (al x.1 30) (
 .aa ((0:Nat) < 2)<|
 .aa ((1:Nat) < 2)<|
 .aa ((0:Nat) < 2)<|
 .aa ((1:Nat) < 2)<|
 .aa ((0:Int)≤0)<|
 .aa (0 < (1:Int))<|
 .aa ((0:Int)≤0)<|
 .aa (0 < (1:Int))<|
 .aa (((0:Nat)+2:Nat)≤2)<|
 let y516:ao:=[4,8]
 let y517:=x.2.2
 let y518:=y517.1
 let y519:bF:=(y516,y518)
 .aa (aM y519)<|
 let y520:=((bf y519)==true)
 .ite y520 (
 let y521:=y517.2
 let y522:=y521.1
 .aa (cY y522)<|
 let y523:=((dV y522)==true)
 .ite y523 (
 let y524:=y521.2.1
 .aa (dg y524)<|
 let y525:=((ef y524)==true)
 .ite y525 (
 .aa (((0:Nat)+2:Nat)≤2)<|
 .aa (((0:Nat)+2:Nat)≤2)<|
 let y526:cC:=(0,())
 let y527:cj:=(y516,y526)
 let y528:Int:=(dy .u8 x.2.1 15)
 let y529:ao:=[15,(aU .u8 64 y528)]
 let y530:bA:=((-1),(2,0))
 .ret (.inr (y527,(((),((),(y529,y530))),true)))) (
 let y531:Int:=(dy .u8 x.2.1 15)
 let y532:ao:=[15,(aU .u8 64 y531)]
 .ret (.inl (.h7 y516 y532)))) (
 let y533:Int:=(dy .u8 x.2.1 15)
 let y534:ao:=[15,(aU .u8 64 y533)]
 .ret (.inl (.h7 y516 y534)))) (
 let y535:Int:=(dy .u8 x.2.1 15)
 let y536:ao:=[15,(aU .u8 64 y535)]
 .ret (.inl (.h7 y516 y536)))) (
 .ite (al x.1 31) (
 .aa ((0:Nat) < 1)<|
 .aa ((0:Nat) < 2)<|
 .aa ((1:Nat) < 2)<|
 .aa ((0:Int)≤0)<|
 .aa (0 < (1:Int))<|
 .aa ((0:Int)≤0)<|
 .aa (0 < (1:Int))<|
 .aa (((0:Nat)+1:Nat)≤1)<|
 let y537:=x.2.2
 let y538:=y537.1
 let y539:bF:=([1],y538)
 .aa (aM y539)<|
 let y540:=((bf y539)==true)
 .ite y540 (
 let y541:=y537.2
 let y542:=y541.1
 .aa (dg y542)<|
 let y543:=((ef y542)==true)
 .ite y543 (
 let y544:=y541.2.1
 .aa (a8 y544)<|
 let y545:=((bE y544)==true)
 .ite y545 (
 .aa (((0:Nat)+1:Nat)≤1)<|
 .aa (((0:Nat)+2:Nat)≤2)<|
 let y546:cC:=(0,())
 let y547:cj:=([1],y546)
 let y548:Int:=(dy .u8 x.2.1 15)
 let y549:ao:=[15,(aU .u8 144 y548)]
 let y550:bN:=(1,0)
 .ret (.inr (y547,(((),((),(y549,(0,y550)))),true)))) (
 let y551:Int:=(dy .u8 x.2.1 15)
 let y552:ao:=[15,(aU .u8 144 y551)]
 .ret (.inl (.h8 [1] y552)))) (
 let y553:Int:=(dy .u8 x.2.1 15)
 let y554:ao:=[15,(aU .u8 144 y553)]
 .ret (.inl (.h8 [1] y554)))) (
 let y555:Int:=(dy .u8 x.2.1 15)
 let y556:ao:=[15,(aU .u8 144 y555)]
 .ret (.inl (.h8 [1] y556)))) (
 .ite (al x.1 32) (
 .aa ((0:Nat) < 2)<|
 .aa ((1:Nat) < 2)<|
 .aa ((0:Nat) < 2)<|
 .aa ((1:Nat) < 2)<|
 .aa ((0:Int)≤0)<|
 .aa (0 < (1:Int))<|
 .aa ((0:Int)≤0)<|
 .aa (0 < (1:Int))<|
 .aa (((0:Nat)+2:Nat)≤2)<|
 let y557:ao:=[4,8]
 let y558:=x.2.2
 let y559:=y558.1
 let y560:bF:=(y557,y559)
 .aa (aM y560)<|
 let y561:=((bf y560)==true)
 .ite y561 (
 let y562:=y558.2
 let y563:=y562.1
 .aa (cY y563)<|
 let y564:=((dV y563)==true)
 .ite y564 (
 let y565:=y562.2.1
 .aa (dg y565)<|
 let y566:=((ef y565)==true)
 .ite y566 (
 .aa (((0:Nat)+2:Nat)≤2)<|
 .aa (((0:Nat)+2:Nat)≤2)<|
 let y567:cC:=(0,())
 let y568:cj:=(y557,y567)
 let y569:ao:=[15,182]
 let y570:bA:=((-1),(2,0))
 .ret (.inr (y568,(((),((),(y569,y570))),true)))) (
 let y571:ao:=[15,182]
 .ret (.inl (.h7 y557 y571)))) (
 let y572:ao:=[15,182]
 .ret (.inl (.h7 y557 y572)))) (
 let y573:ao:=[15,182]
 .ret (.inl (.h7 y557 y573)))) (
 .ite (al x.1 33) (
 .aa ((0:Nat) < 2)<|
 .aa ((1:Nat) < 2)<|
 .aa ((0:Nat) < 2)<|
 .aa ((1:Nat) < 2)<|
 .aa ((0:Int)≤0)<|
 .aa (0 < (1:Int))<|
 .aa ((0:Int)≤0)<|
 .aa (0 < (1:Int))<|
 .aa (((0:Nat)+2:Nat)≤2)<|
 let y574:ao:=[4,8]
 let y575:=x.2.2
 let y576:=y575.1
 let y577:bF:=(y574,y576)
 .aa (aM y577)<|
 let y578:=((bf y577)==true)
 .ite y578 (
 let y579:=y575.2
 let y580:=y579.1
 .aa (cY y580)<|
 let y581:=((dV y580)==true)
 .ite y581 (
 let y582:=y579.2.1
 .aa (dg y582)<|
 let y583:=((ef y582)==true)
 .ite y583 (
 .aa (((0:Nat)+2:Nat)≤2)<|
 .aa (((0:Nat)+2:Nat)≤2)<|
 let y584:cC:=(0,())
 let y585:cj:=(y574,y584)
 let y586:ao:=[15,190]
 let y587:bA:=((-1),(2,0))
 .ret (.inr (y585,(((),((),(y586,y587))),true)))) (
 let y588:ao:=[15,190]
 .ret (.inl (.h7 y574 y588)))) (
 let y589:ao:=[15,190]
 .ret (.inl (.h7 y574 y589)))) (
 let y590:ao:=[15,190]
 .ret (.inl (.h7 y574 y590)))) (
 .ite (al x.1 35) (
 .aa ((0:Nat) < 2)<|
 .aa ((1:Nat) < 2)<|
 .aa ((0:Nat) < 2)<|
 .aa ((1:Nat) < 2)<|
 .aa ((0:Nat) < 1)<|
 .aa ((0:Int)≤0)<|
 .aa (0 < (1:Int))<|
 .aa ((0:Int)≤0)<|
 .aa (0 < (2:Int))<|
 .aa (((0:Nat)+1:Nat)≤1)<|
 let y591:=x.2.2
 let y592:=y591.1
 let y593:bF:=([16],y592)
 .aa (aM y593)<|
 let y594:=((bf y593)==true)
 .ite y594 (
 let y595:=y591.2
 let y596:=y595.1
 .aa (jC y596)<|
 let y597:=((mU y596)==true)
 .ite y597 (
 let y598:=y595.2.1
 .aa (lr y598)<|
 let y599:=((qM y598)==true)
 .ite y599 (
 .aa (((0:Nat)+1:Nat)≤1)<|
 .aa (((0:Nat)+2:Nat)≤2)<|
 let y600:ao:=[15,111]
 let y601:bA:=((-1),(2,0))
 .ret (.inr (([16],(243,())),(((),((),(y600,y601))),true)))) (
 let y602:ao:=[15,111]
 let y603:ao:=[15,127]
 .ret (.inl (.h9 [16] y602 y603)))) (
 let y604:ao:=[15,111]
 let y605:ao:=[15,127]
 .ret (.inl (.h9 [16] y604 y605)))) (
 let y606:ao:=[15,111]
 let y607:ao:=[15,127]
 .ret (.inl (.h9 [16] y606 y607)))) (
 .ite (al x.1 36) (
 .aa ((0:Nat) < 2)<|
 .aa ((1:Nat) < 2)<|
 .aa ((0:Nat) < 1)<|
 .aa ((0:Int)≤0)<|
 .aa (0 < (1:Int))<|
 .aa ((0:Int)≤0)<|
 .aa (0 < (1:Int))<|
 .aa (((0:Nat)+1:Nat)≤1)<|
 let y608:=x.2.2
 let y609:=y608.1
 let y610:bF:=([16],y609)
 .aa (aM y610)<|
 let y611:=((bf y610)==true)
 .ite y611 (
 let y612:=y608.2
 let y613:=y612.1
 .aa (jC y613)<|
 let y614:=((mU y613)==true)
 .ite y614 (
 let y615:=y612.2.1
 .aa (lr y615)<|
 let y616:=((qM y615)==true)
 .ite y616 (
 .aa (((0:Nat)+1:Nat)≤1)<|
 .aa (((0:Nat)+2:Nat)≤2)<|
 let y617:cj:=([16],(102,()))
 let y618:ao:=[15,239]
 let y619:bA:=((-1),(2,0))
 .ret (.inr (y617,(((),((),(y618,y619))),true)))) (
 let y620:ao:=[15,239]
 .ret (.inl (.BV [16] y620)))) (
 let y621:ao:=[15,239]
 .ret (.inl (.BV [16] y621)))) (
 let y622:ao:=[15,239]
 .ret (.inl (.BV [16] y622)))) (
 .ite (al x.1 37) (
 .aa ((0:Nat) < 3)<|
 .aa ((1:Nat) < 3)<|
 .aa ((2:Nat) < 3)<|
 .aa ((0:Nat) < 1)<|
 .aa ((0:Int)≤0)<|
 .aa (0 < (1:Int))<|
 .aa ((0:Int)≤0)<|
 .aa (0 < (1:Int))<|
 .aa (((0:Nat)+1:Nat)≤1)<|
 let y623:=x.2.2
 let y624:=y623.1
 let y625:bF:=([16],y624)
 .aa (aM y625)<|
 let y626:=((bf y625)==true)
 .ite y626 (
 let y627:=y623.2
 let y628:=y627.1
 .aa (jC y628)<|
 let y629:=((mU y628)==true)
 .ite y629 (
 let y630:=y627.2.1
 .aa (lr y630)<|
 let y631:=((qM y630)==true)
 .ite y631 (
 .aa (((0:Nat)+1:Nat)≤1)<|
 .aa (((0:Nat)+3:Nat)≤3)<|
 let y632:cj:=([16],(102,()))
 let y633:ao:=[15,56,220]
 let y634:bA:=((-1),(2,0))
 .ret (.inr (y632,(((),((),(y633,y634))),true)))) (
 let y635:ao:=[15,56,220]
 .ret (.inl (.vm [16] 0 y635)))) (
 let y636:ao:=[15,56,220]
 .ret (.inl (.vm [16] 0 y636)))) (
 let y637:ao:=[15,56,220]
 .ret (.inl (.vm [16] 0 y637)))) (
 .ite (al x.1 38) (
 .aa ((0:Nat) < 3)<|
 .aa ((1:Nat) < 3)<|
 .aa ((2:Nat) < 3)<|
 .aa ((0:Nat) < 1)<|
 .aa ((0:Int)≤0)<|
 .aa (0 < (1:Int))<|
 .aa ((0:Int)≤0)<|
 .aa (0 < (1:Int))<|
 .aa (((0:Nat)+1:Nat)≤1)<|
 let y638:=x.2.2
 let y639:=y638.1
 let y640:bF:=([16],y639)
 .aa (aM y640)<|
 let y641:=((bf y640)==true)
 .ite y641 (
 let y642:=y638.2
 let y643:=y642.1
 .aa (jC y643)<|
 let y644:=((mU y643)==true)
 .ite y644 (
 let y645:=y642.2.1
 .aa (lr y645)<|
 let y646:=((qM y645)==true)
 .ite y646 (
 .aa (((0:Nat)+1:Nat)≤1)<|
 .aa (((0:Nat)+3:Nat)≤3)<|
 let y647:cj:=([16],(102,()))
 let y648:ao:=[15,56,221]
 let y649:bA:=((-1),(2,0))
 .ret (.inr (y647,(((),((),(y648,y649))),true)))) (
 let y650:ao:=[15,56,221]
 .ret (.inl (.vm [16] 0 y650)))) (
 let y651:ao:=[15,56,221]
 .ret (.inl (.vm [16] 0 y651)))) (
 let y652:ao:=[15,56,221]
 .ret (.inl (.vm [16] 0 y652)))) (
 .ite (al x.1 39) (
 .aa ((0:Nat) < 3)<|
 .aa ((1:Nat) < 3)<|
 .aa ((2:Nat) < 3)<|
 .aa ((0:Nat) < 1)<|
 .aa ((0:Int)≤0)<|
 .aa (0 < (1:Int))<|
 .aa ((0:Int)≤0)<|
 .aa (0 < (1:Int))<|
 .aa (((0:Nat)+1:Nat)≤1)<|
 let y653:=x.2.2
 let y654:=y653.1
 let y655:bF:=([16],y654)
 .aa (aM y655)<|
 let y656:=((bf y655)==true)
 .ite y656 (
 let y657:=y653.2
 let y658:=y657.1
 .aa (jC y658)<|
 let y659:=((mU y658)==true)
 .ite y659 (
 let y660:=y657.2.1
 .aa (lr y660)<|
 let y661:=((qM y660)==true)
 .ite y661 (
 .aa (((0:Nat)+1:Nat)≤1)<|
 .aa (((0:Nat)+3:Nat)≤3)<|
 let y662:cj:=([16],(102,()))
 let y663:ao:=[15,58,68]
 .ret (.inr (y662,(((),((),(y663,((-1),(2,1))))),true)))) (
 let y664:ao:=[15,58,68]
 .ret (.inl (.vm [16] 1 y664)))) (
 let y665:ao:=[15,58,68]
 .ret (.inl (.vm [16] 1 y665)))) (
 let y666:ao:=[15,58,68]
 .ret (.inl (.vm [16] 1 y666)))) (
 let y667:=(al x.1 26)
 .ite (y667==false) (
 let y668:=(al x.1 28)
 .ite (y668==false) (
 let y669:=(al x.1 29)
 .ite (y669==false) (
 let y670:=(al x.1 27)
 .ite (y670==false) (
 let y671:=(al x.1 34)
 .ite (y671==false) (
 let y672:=(al x.1 24)
 .ite (y672==false) (
 .ite (al x.1 25) (
 .ite y667 (
 .aa ((0:Nat) < 1)<|
 .aa ((0:Nat) < 2)<|
 .aa ((1:Nat) < 2)<|
 .aa ((0:Int)≤0)<|
 .aa (0 < (1:Int))<|
 .aa ((0:Int)≤0)<|
 .aa (0 < (1:Int))<|
 .aa (((0:Nat)+2:Nat)≤2)<|
 let y673:ao:=[8,8]
 let y674:=x.2.2
 let y675:=y674.1
 let y676:bF:=(y673,y675)
 .aa (aM y676)<|
 let y677:=((bf y676)==true)
 .ite y677 (
 let y678:=y674.2
 let y679:=y678.1
 .aa (a8 y679)<|
 let y680:=((bE y679)==true)
 .ite y680 (
 let y681:=y678.2.1
 .aa (dv y681)<|
 let y682:=((eB y681)==true)
 .ite y682 (
 .aa (((0:Nat)+2:Nat)≤2)<|
 .aa (((0:Nat)+1:Nat)≤1)<|
 let y683:cC:=(0,())
 let y684:cj:=(y673,y683)
 let y685:bA:=(0,(0,4))
 let y686:ck:=(y684,(((),((),([232],y685))),true))
 .ret (.inr y686)) (
 .ret (.inl (.lC y673 [232])))) (
 .ret (.inl (.lC y673 [232])))) (
 .ret (.inl (.lC y673 [232])))) (
 .ite y668 (
 .aa ((0:Nat) < 1)<|
 .aa ((0:Nat) < 1)<|
 .aa ((0:Nat) < 2)<|
 .aa ((1:Nat) < 2)<|
 .aa ((0:Int)≤0)<|
 .aa (0 < (1:Int))<|
 .aa ((0:Int)≤0)<|
 .aa (0 < (2:Int))<|
 .aa (((0:Nat)+2:Nat)≤2)<|
 let y687:ao:=[8,8]
 let y688:=x.2.2
 let y689:=y688.1
 let y690:bF:=(y687,y689)
 .aa (aM y690)<|
 let y691:=((bf y690)==true)
 .ite y691 (
 let y692:=y688.2
 let y693:=y692.1
 .aa (a8 y693)<|
 let y694:=((bE y693)==true)
 .ite y694 (
 let y695:=y692.2.1
 .aa (dv y695)<|
 let y696:=((eB y695)==true)
 .ite y696 (
 .aa (((0:Nat)+2:Nat)≤2)<|
 .aa (((0:Nat)+1:Nat)≤1)<|
 let y697:cC:=(0,())
 let y698:cj:=(y687,y697)
 let y699:bA:=(0,(0,4))
 let y700:ck:=(y698,(((),((),([233],y699))),true))
 .ret (.inr y700)) (
 .ret (.inl (.kz y687 [233] [255])))) (
 .ret (.inl (.kz y687 [233] [255])))) (
 .ret (.inl (.kz y687 [233] [255])))) (
 .ite y669 (
 .aa ((0:Nat) < 2)<|
 .aa ((1:Nat) < 2)<|
 .aa ((0:Nat) < 2)<|
 .aa ((1:Nat) < 2)<|
 .aa ((0:Int)≤0)<|
 .aa (0 < (1:Int))<|
 .aa ((0:Int)≤0)<|
 .aa (0 < (1:Int))<|
 .aa (((0:Nat)+2:Nat)≤2)<|
 let y701:ao:=[8,8]
 let y702:=x.2.2
 let y703:=y702.1
 let y704:bF:=(y701,y703)
 .aa (aM y704)<|
 let y705:=((bf y704)==true)
 .ite y705 (
 let y706:=y702.2
 let y707:=y706.1
 .aa (a8 y707)<|
 let y708:=((bE y707)==true)
 .ite y708 (
 let y709:=y706.2.1
 .aa (dv y709)<|
 let y710:=((eB y709)==true)
 .ite y710 (
 .aa (((0:Nat)+2:Nat)≤2)<|
 .aa (((0:Nat)+2:Nat)≤2)<|
 let y711:cC:=(0,())
 let y712:cj:=(y701,y711)
 let y713:Int:=(dy .u8 x.2.1 15)
 let y714:ao:=[15,(aU .u8 128 y713)]
 let y715:bA:=(0,(0,4))
 let y716:ck:=(y712,(((),((),(y714,y715))),true))
 .ret (.inr y716)) (
 let y717:Int:=(dy .u8 x.2.1 15)
 let y718:ao:=[15,(aU .u8 128 y717)]
 .ret (.inl (.jM y701 y718)))) (
 let y719:Int:=(dy .u8 x.2.1 15)
 let y720:ao:=[15,(aU .u8 128 y719)]
 .ret (.inl (.jM y701 y720)))) (
 let y721:Int:=(dy .u8 x.2.1 15)
 let y722:ao:=[15,(aU .u8 128 y721)]
 .ret (.inl (.jM y701 y722)))) (
 .ite y670 (
 .aa ((0:Nat) < 1)<|
 .aa ((0:Nat) < 2)<|
 .aa ((1:Nat) < 2)<|
 .aa ((0:Int)≤0)<|
 .aa (0 < (1:Int))<|
 .aa ((0:Int)≤0)<|
 .aa (0 < (1:Int))<|
 .aa (((0:Nat)+2:Nat)≤2)<|
 let y723:ao:=[8,8]
 let y724:=x.2.2
 let y725:=y724.1
 let y726:bF:=(y723,y725)
 .aa (aM y726)<|
 let y727:=((bf y726)==true)
 .ite y727 (
 let y728:=y724.2
 let y729:=y728.1
 .aa (a8 y729)<|
 let y730:=((bE y729)==true)
 .ite y730 (
 let y731:=y728.2.1
 .aa (a8 y731)<|
 let y732:=((bE y731)==true)
 .ite y732 (
 .aa (((0:Nat)+2:Nat)≤2)<|
 .aa (((0:Nat)+1:Nat)≤1)<|
 let y733:cC:=(0,())
 let y734:cj:=(y723,y733)
 let y735:bA:=(0,(0,0))
 let y736:ck:=(y734,(((),((),([195],y735))),true))
 .ret (.inr y736)) (
 .ret (.inl (.gF y723 [195])))) (
 .ret (.inl (.gF y723 [195])))) (
 .ret (.inl (.gF y723 [195])))) (
 .ite y671 (
 .aa ((0:Nat) < 1)<|
 .aa ((0:Nat) < 2)<|
 .aa ((1:Nat) < 2)<|
 .aa ((0:Int)≤0)<|
 .aa (0 < (1:Int))<|
 .aa ((0:Int)≤0)<|
 .aa (0 < (1:Int))<|
 .aa (((0:Nat)+2:Nat)≤2)<|
 let y737:ao:=[8,8]
 let y738:=x.2.2
 let y739:=y738.1
 let y740:bF:=(y737,y739)
 .aa (aM y740)<|
 let y741:=((bf y740)==true)
 .ite y741 (
 let y742:=y738.2
 let y743:=y742.1
 .aa (a8 y743)<|
 let y744:=((bE y743)==true)
 .ite y744 (
 let y745:=y742.2.1
 .aa (a8 y745)<|
 let y746:=((bE y745)==true)
 .ite y746 (
 .aa (((0:Nat)+2:Nat)≤2)<|
 .aa (((0:Nat)+1:Nat)≤1)<|
 let y747:cC:=(0,())
 let y748:cj:=(y737,y747)
 let y749:bA:=(0,(0,0))
 let y750:ck:=(y748,(((),((),([144],y749))),true))
 .ret (.inr y750)) (
 .ret (.inl (.gF y737 [144])))) (
 .ret (.inl (.gF y737 [144])))) (
 .ret (.inl (.gF y737 [144])))) (
 .ite y672 (
 .aa ((0:Nat) < 1)<|
 .aa ((0:Nat) < 2)<|
 .aa ((1:Nat) < 2)<|
 .aa ((0:Int)≤0)<|
 .aa (0 < (1:Int))<|
 .aa ((0:Int)≤0)<|
 .aa (0 < (1:Int))<|
 .aa (((0:Nat)+2:Nat)≤2)<|
 let y751:ao:=[8,8]
 let y752:=x.2.2
 let y753:=y752.1
 let y754:bF:=(y751,y753)
 .aa (aM y754)<|
 let y755:=((bf y754)==true)
 .ite y755 (
 let y756:=y752.2
 let y757:=y756.1
 .aa (cY y757)<|
 let y758:=((dV y757)==true)
 .ite y758 (
 let y759:=y756.2.1
 .aa (a8 y759)<|
 let y760:=((bE y759)==true)
 .ite y760 (
 .aa (((0:Nat)+2:Nat)≤2)<|
 .aa (((0:Nat)+1:Nat)≤1)<|
 let y761:cC:=(0,())
 let y762:cj:=(y751,y761)
 let y763:bA:=(0,(3,0))
 let y764:ck:=(y762,(((),((),([80],y763))),true))
 .ret (.inr y764)) (
 .ret (.inl (.gJ y751 [80])))) (
 .ret (.inl (.gJ y751 [80])))) (
 .ret (.inl (.gJ y751 [80])))) (
 .aa ((0:Nat) < 1)<|
 .aa ((0:Nat) < 2)<|
 .aa ((1:Nat) < 2)<|
 .aa ((0:Int)≤0)<|
 .aa (0 < (1:Int))<|
 .aa ((0:Int)≤0)<|
 .aa (0 < (1:Int))<|
 .aa (((0:Nat)+2:Nat)≤2)<|
 let y765:ao:=[8,8]
 let y766:=x.2.2
 let y767:=y766.1
 let y768:bF:=(y765,y767)
 .aa (aM y768)<|
 let y769:=((bf y768)==true)
 .ite y769 (
 let y770:=y766.2
 let y771:=y770.1
 .aa (cY y771)<|
 let y772:=((dV y771)==true)
 .ite y772 (
 let y773:=y770.2.1
 .aa (a8 y773)<|
 let y774:=((bE y773)==true)
 .ite y774 (
 .aa (((0:Nat)+2:Nat)≤2)<|
 .aa (((0:Nat)+1:Nat)≤1)<|
 let y775:cC:=(0,())
 let y776:cj:=(y765,y775)
 let y777:bA:=(0,(3,0))
 let y778:ck:=(y776,(((),((),([88],y777))),true))
 .ret (.inr y778)) (
 .ret (.inl (.gJ y765 [88])))) (
 .ret (.inl (.gJ y765 [88])))) (
 .ret (.inl (.gJ y765 [88])))))))))) (
 .ret (.inl (.lB)))) (
 .ite y667 (
 .aa ((0:Nat) < 1)<|
 .aa ((0:Nat) < 2)<|
 .aa ((1:Nat) < 2)<|
 .aa ((0:Int)≤0)<|
 .aa (0 < (1:Int))<|
 .aa ((0:Int)≤0)<|
 .aa (0 < (1:Int))<|
 .aa (((0:Nat)+2:Nat)≤2)<|
 let y779:ao:=[8,8]
 let y780:=x.2.2
 let y781:=y780.1
 let y782:bF:=(y779,y781)
 .aa (aM y782)<|
 let y783:=((bf y782)==true)
 .ite y783 (
 let y784:=y780.2
 let y785:=y784.1
 .aa (a8 y785)<|
 let y786:=((bE y785)==true)
 .ite y786 (
 let y787:=y784.2.1
 .aa (dv y787)<|
 let y788:=((eB y787)==true)
 .ite y788 (
 .aa (((0:Nat)+2:Nat)≤2)<|
 .aa (((0:Nat)+1:Nat)≤1)<|
 let y789:cC:=(0,())
 let y790:cj:=(y779,y789)
 let y791:bA:=(0,(0,4))
 let y792:ck:=(y790,(((),((),([232],y791))),true))
 .ret (.inr y792)) (
 .ret (.inl (.lC y779 [232])))) (
 .ret (.inl (.lC y779 [232])))) (
 .ret (.inl (.lC y779 [232])))) (
 .ite y668 (
 .aa ((0:Nat) < 1)<|
 .aa ((0:Nat) < 1)<|
 .aa ((0:Nat) < 2)<|
 .aa ((1:Nat) < 2)<|
 .aa ((0:Int)≤0)<|
 .aa (0 < (1:Int))<|
 .aa ((0:Int)≤0)<|
 .aa (0 < (2:Int))<|
 .aa (((0:Nat)+2:Nat)≤2)<|
 let y793:ao:=[8,8]
 let y794:=x.2.2
 let y795:=y794.1
 let y796:bF:=(y793,y795)
 .aa (aM y796)<|
 let y797:=((bf y796)==true)
 .ite y797 (
 let y798:=y794.2
 let y799:=y798.1
 .aa (a8 y799)<|
 let y800:=((bE y799)==true)
 .ite y800 (
 let y801:=y798.2.1
 .aa (dv y801)<|
 let y802:=((eB y801)==true)
 .ite y802 (
 .aa (((0:Nat)+2:Nat)≤2)<|
 .aa (((0:Nat)+1:Nat)≤1)<|
 let y803:cC:=(0,())
 let y804:cj:=(y793,y803)
 let y805:bA:=(0,(0,4))
 let y806:ck:=(y804,(((),((),([233],y805))),true))
 .ret (.inr y806)) (
 .ret (.inl (.kz y793 [233] [255])))) (
 .ret (.inl (.kz y793 [233] [255])))) (
 .ret (.inl (.kz y793 [233] [255])))) (
 .ite y669 (
 .aa ((0:Nat) < 2)<|
 .aa ((1:Nat) < 2)<|
 .aa ((0:Nat) < 2)<|
 .aa ((1:Nat) < 2)<|
 .aa ((0:Int)≤0)<|
 .aa (0 < (1:Int))<|
 .aa ((0:Int)≤0)<|
 .aa (0 < (1:Int))<|
 .aa (((0:Nat)+2:Nat)≤2)<|
 let y807:ao:=[8,8]
 let y808:=x.2.2
 let y809:=y808.1
 let y810:bF:=(y807,y809)
 .aa (aM y810)<|
 let y811:=((bf y810)==true)
 .ite y811 (
 let y812:=y808.2
 let y813:=y812.1
 .aa (a8 y813)<|
 let y814:=((bE y813)==true)
 .ite y814 (
 let y815:=y812.2.1
 .aa (dv y815)<|
 let y816:=((eB y815)==true)
 .ite y816 (
 .aa (((0:Nat)+2:Nat)≤2)<|
 .aa (((0:Nat)+2:Nat)≤2)<|
 let y817:cC:=(0,())
 let y818:cj:=(y807,y817)
 let y819:Int:=(dy .u8 x.2.1 15)
 let y820:ao:=[15,(aU .u8 128 y819)]
 let y821:bA:=(0,(0,4))
 let y822:ck:=(y818,(((),((),(y820,y821))),true))
 .ret (.inr y822)) (
 let y823:Int:=(dy .u8 x.2.1 15)
 let y824:ao:=[15,(aU .u8 128 y823)]
 .ret (.inl (.jM y807 y824)))) (
 let y825:Int:=(dy .u8 x.2.1 15)
 let y826:ao:=[15,(aU .u8 128 y825)]
 .ret (.inl (.jM y807 y826)))) (
 let y827:Int:=(dy .u8 x.2.1 15)
 let y828:ao:=[15,(aU .u8 128 y827)]
 .ret (.inl (.jM y807 y828)))) (
 .ite y670 (
 .aa ((0:Nat) < 1)<|
 .aa ((0:Nat) < 2)<|
 .aa ((1:Nat) < 2)<|
 .aa ((0:Int)≤0)<|
 .aa (0 < (1:Int))<|
 .aa ((0:Int)≤0)<|
 .aa (0 < (1:Int))<|
 .aa (((0:Nat)+2:Nat)≤2)<|
 let y829:ao:=[8,8]
 let y830:=x.2.2
 let y831:=y830.1
 let y832:bF:=(y829,y831)
 .aa (aM y832)<|
 let y833:=((bf y832)==true)
 .ite y833 (
 let y834:=y830.2
 let y835:=y834.1
 .aa (a8 y835)<|
 let y836:=((bE y835)==true)
 .ite y836 (
 let y837:=y834.2.1
 .aa (a8 y837)<|
 let y838:=((bE y837)==true)
 .ite y838 (
 .aa (((0:Nat)+2:Nat)≤2)<|
 .aa (((0:Nat)+1:Nat)≤1)<|
 let y839:cC:=(0,())
 let y840:cj:=(y829,y839)
 let y841:bA:=(0,(0,0))
 let y842:ck:=(y840,(((),((),([195],y841))),true))
 .ret (.inr y842)) (
 .ret (.inl (.gF y829 [195])))) (
 .ret (.inl (.gF y829 [195])))) (
 .ret (.inl (.gF y829 [195])))) (
 .ite y671 (
 .aa ((0:Nat) < 1)<|
 .aa ((0:Nat) < 2)<|
 .aa ((1:Nat) < 2)<|
 .aa ((0:Int)≤0)<|
 .aa (0 < (1:Int))<|
 .aa ((0:Int)≤0)<|
 .aa (0 < (1:Int))<|
 .aa (((0:Nat)+2:Nat)≤2)<|
 let y843:ao:=[8,8]
 let y844:=x.2.2
 let y845:=y844.1
 let y846:bF:=(y843,y845)
 .aa (aM y846)<|
 let y847:=((bf y846)==true)
 .ite y847 (
 let y848:=y844.2
 let y849:=y848.1
 .aa (a8 y849)<|
 let y850:=((bE y849)==true)
 .ite y850 (
 let y851:=y848.2.1
 .aa (a8 y851)<|
 let y852:=((bE y851)==true)
 .ite y852 (
 .aa (((0:Nat)+2:Nat)≤2)<|
 .aa (((0:Nat)+1:Nat)≤1)<|
 let y853:cC:=(0,())
 let y854:cj:=(y843,y853)
 let y855:bA:=(0,(0,0))
 let y856:ck:=(y854,(((),((),([144],y855))),true))
 .ret (.inr y856)) (
 .ret (.inl (.gF y843 [144])))) (
 .ret (.inl (.gF y843 [144])))) (
 .ret (.inl (.gF y843 [144])))) (
 .ite y672 (
 .aa ((0:Nat) < 1)<|
 .aa ((0:Nat) < 2)<|
 .aa ((1:Nat) < 2)<|
 .aa ((0:Int)≤0)<|
 .aa (0 < (1:Int))<|
 .aa ((0:Int)≤0)<|
 .aa (0 < (1:Int))<|
 .aa (((0:Nat)+2:Nat)≤2)<|
 let y857:ao:=[8,8]
 let y858:=x.2.2
 let y859:=y858.1
 let y860:bF:=(y857,y859)
 .aa (aM y860)<|
 let y861:=((bf y860)==true)
 .ite y861 (
 let y862:=y858.2
 let y863:=y862.1
 .aa (cY y863)<|
 let y864:=((dV y863)==true)
 .ite y864 (
 let y865:=y862.2.1
 .aa (a8 y865)<|
 let y866:=((bE y865)==true)
 .ite y866 (
 .aa (((0:Nat)+2:Nat)≤2)<|
 .aa (((0:Nat)+1:Nat)≤1)<|
 let y867:cC:=(0,())
 let y868:cj:=(y857,y867)
 let y869:bA:=(0,(3,0))
 let y870:ck:=(y868,(((),((),([80],y869))),true))
 .ret (.inr y870)) (
 .ret (.inl (.gJ y857 [80])))) (
 .ret (.inl (.gJ y857 [80])))) (
 .ret (.inl (.gJ y857 [80])))) (
 .aa ((0:Nat) < 1)<|
 .aa ((0:Nat) < 2)<|
 .aa ((1:Nat) < 2)<|
 .aa ((0:Int)≤0)<|
 .aa (0 < (1:Int))<|
 .aa ((0:Int)≤0)<|
 .aa (0 < (1:Int))<|
 .aa (((0:Nat)+2:Nat)≤2)<|
 let y871:ao:=[8,8]
 let y872:=x.2.2
 let y873:=y872.1
 let y874:bF:=(y871,y873)
 .aa (aM y874)<|
 let y875:=((bf y874)==true)
 .ite y875 (
 let y876:=y872.2
 let y877:=y876.1
 .aa (cY y877)<|
 let y878:=((dV y877)==true)
 .ite y878 (
 let y879:=y876.2.1
 .aa (a8 y879)<|
 let y880:=((bE y879)==true)
 .ite y880 (
 .aa (((0:Nat)+2:Nat)≤2)<|
 .aa (((0:Nat)+1:Nat)≤1)<|
 let y881:cC:=(0,())
 let y882:cj:=(y871,y881)
 let y883:bA:=(0,(3,0))
 let y884:ck:=(y882,(((),((),([88],y883))),true))
 .ret (.inr y884)) (
 .ret (.inl (.gJ y871 [88])))) (
 .ret (.inl (.gJ y871 [88])))) (
 .ret (.inl (.gJ y871 [88]))))))))))) (
 .ite y667 (
 .aa ((0:Nat) < 1)<|
 .aa ((0:Nat) < 2)<|
 .aa ((1:Nat) < 2)<|
 .aa ((0:Int)≤0)<|
 .aa (0 < (1:Int))<|
 .aa ((0:Int)≤0)<|
 .aa (0 < (1:Int))<|
 .aa (((0:Nat)+2:Nat)≤2)<|
 let y885:ao:=[8,8]
 let y886:=x.2.2
 let y887:=y886.1
 let y888:bF:=(y885,y887)
 .aa (aM y888)<|
 let y889:=((bf y888)==true)
 .ite y889 (
 let y890:=y886.2
 let y891:=y890.1
 .aa (a8 y891)<|
 let y892:=((bE y891)==true)
 .ite y892 (
 let y893:=y890.2.1
 .aa (dv y893)<|
 let y894:=((eB y893)==true)
 .ite y894 (
 .aa (((0:Nat)+2:Nat)≤2)<|
 .aa (((0:Nat)+1:Nat)≤1)<|
 let y895:cC:=(0,())
 let y896:cj:=(y885,y895)
 let y897:bA:=(0,(0,4))
 let y898:ck:=(y896,(((),((),([232],y897))),true))
 .ret (.inr y898)) (
 .ret (.inl (.lC y885 [232])))) (
 .ret (.inl (.lC y885 [232])))) (
 .ret (.inl (.lC y885 [232])))) (
 .ite y668 (
 .aa ((0:Nat) < 1)<|
 .aa ((0:Nat) < 1)<|
 .aa ((0:Nat) < 2)<|
 .aa ((1:Nat) < 2)<|
 .aa ((0:Int)≤0)<|
 .aa (0 < (1:Int))<|
 .aa ((0:Int)≤0)<|
 .aa (0 < (2:Int))<|
 .aa (((0:Nat)+2:Nat)≤2)<|
 let y899:ao:=[8,8]
 let y900:=x.2.2
 let y901:=y900.1
 let y902:bF:=(y899,y901)
 .aa (aM y902)<|
 let y903:=((bf y902)==true)
 .ite y903 (
 let y904:=y900.2
 let y905:=y904.1
 .aa (a8 y905)<|
 let y906:=((bE y905)==true)
 .ite y906 (
 let y907:=y904.2.1
 .aa (dv y907)<|
 let y908:=((eB y907)==true)
 .ite y908 (
 .aa (((0:Nat)+2:Nat)≤2)<|
 .aa (((0:Nat)+1:Nat)≤1)<|
 let y909:cC:=(0,())
 let y910:cj:=(y899,y909)
 let y911:bA:=(0,(0,4))
 let y912:ck:=(y910,(((),((),([233],y911))),true))
 .ret (.inr y912)) (
 .ret (.inl (.kz y899 [233] [255])))) (
 .ret (.inl (.kz y899 [233] [255])))) (
 .ret (.inl (.kz y899 [233] [255])))) (
 .ite y669 (
 .aa ((0:Nat) < 2)<|
 .aa ((1:Nat) < 2)<|
 .aa ((0:Nat) < 2)<|
 .aa ((1:Nat) < 2)<|
 .aa ((0:Int)≤0)<|
 .aa (0 < (1:Int))<|
 .aa ((0:Int)≤0)<|
 .aa (0 < (1:Int))<|
 .aa (((0:Nat)+2:Nat)≤2)<|
 let y913:ao:=[8,8]
 let y914:=x.2.2
 let y915:=y914.1
 let y916:bF:=(y913,y915)
 .aa (aM y916)<|
 let y917:=((bf y916)==true)
 .ite y917 (
 let y918:=y914.2
 let y919:=y918.1
 .aa (a8 y919)<|
 let y920:=((bE y919)==true)
 .ite y920 (
 let y921:=y918.2.1
 .aa (dv y921)<|
 let y922:=((eB y921)==true)
 .ite y922 (
 .aa (((0:Nat)+2:Nat)≤2)<|
 .aa (((0:Nat)+2:Nat)≤2)<|
 let y923:cC:=(0,())
 let y924:cj:=(y913,y923)
 let y925:Int:=(dy .u8 x.2.1 15)
 let y926:ao:=[15,(aU .u8 128 y925)]
 let y927:bA:=(0,(0,4))
 let y928:ck:=(y924,(((),((),(y926,y927))),true))
 .ret (.inr y928)) (
 let y929:Int:=(dy .u8 x.2.1 15)
 let y930:ao:=[15,(aU .u8 128 y929)]
 .ret (.inl (.jM y913 y930)))) (
 let y931:Int:=(dy .u8 x.2.1 15)
 let y932:ao:=[15,(aU .u8 128 y931)]
 .ret (.inl (.jM y913 y932)))) (
 let y933:Int:=(dy .u8 x.2.1 15)
 let y934:ao:=[15,(aU .u8 128 y933)]
 .ret (.inl (.jM y913 y934)))) (
 .ite y670 (
 .aa ((0:Nat) < 1)<|
 .aa ((0:Nat) < 2)<|
 .aa ((1:Nat) < 2)<|
 .aa ((0:Int)≤0)<|
 .aa (0 < (1:Int))<|
 .aa ((0:Int)≤0)<|
 .aa (0 < (1:Int))<|
 .aa (((0:Nat)+2:Nat)≤2)<|
 let y935:ao:=[8,8]
 let y936:=x.2.2
 let y937:=y936.1
 let y938:bF:=(y935,y937)
 .aa (aM y938)<|
 let y939:=((bf y938)==true)
 .ite y939 (
 let y940:=y936.2
 let y941:=y940.1
 .aa (a8 y941)<|
 let y942:=((bE y941)==true)
 .ite y942 (
 let y943:=y940.2.1
 .aa (a8 y943)<|
 let y944:=((bE y943)==true)
 .ite y944 (
 .aa (((0:Nat)+2:Nat)≤2)<|
 .aa (((0:Nat)+1:Nat)≤1)<|
 let y945:cC:=(0,())
 let y946:cj:=(y935,y945)
 let y947:bA:=(0,(0,0))
 let y948:ck:=(y946,(((),((),([195],y947))),true))
 .ret (.inr y948)) (
 .ret (.inl (.gF y935 [195])))) (
 .ret (.inl (.gF y935 [195])))) (
 .ret (.inl (.gF y935 [195])))) (
 .ite y671 (
 .aa ((0:Nat) < 1)<|
 .aa ((0:Nat) < 2)<|
 .aa ((1:Nat) < 2)<|
 .aa ((0:Int)≤0)<|
 .aa (0 < (1:Int))<|
 .aa ((0:Int)≤0)<|
 .aa (0 < (1:Int))<|
 .aa (((0:Nat)+2:Nat)≤2)<|
 let y949:ao:=[8,8]
 let y950:=x.2.2
 let y951:=y950.1
 let y952:bF:=(y949,y951)
 .aa (aM y952)<|
 let y953:=((bf y952)==true)
 .ite y953 (
 let y954:=y950.2
 let y955:=y954.1
 .aa (a8 y955)<|
 let y956:=((bE y955)==true)
 .ite y956 (
 let y957:=y954.2.1
 .aa (a8 y957)<|
 let y958:=((bE y957)==true)
 .ite y958 (
 .aa (((0:Nat)+2:Nat)≤2)<|
 .aa (((0:Nat)+1:Nat)≤1)<|
 let y959:cC:=(0,())
 let y960:cj:=(y949,y959)
 let y961:bA:=(0,(0,0))
 let y962:ck:=(y960,(((),((),([144],y961))),true))
 .ret (.inr y962)) (
 .ret (.inl (.gF y949 [144])))) (
 .ret (.inl (.gF y949 [144])))) (
 .ret (.inl (.gF y949 [144])))) (
 let y963:=(al x.1 24)
 .ite y963 (
 .aa ((0:Nat) < 1)<|
 .aa ((0:Nat) < 2)<|
 .aa ((1:Nat) < 2)<|
 .aa ((0:Int)≤0)<|
 .aa (0 < (1:Int))<|
 .aa ((0:Int)≤0)<|
 .aa (0 < (1:Int))<|
 .aa (((0:Nat)+2:Nat)≤2)<|
 let y964:ao:=[8,8]
 let y965:=x.2.2
 let y966:=y965.1
 let y967:bF:=(y964,y966)
 .aa (aM y967)<|
 let y968:=((bf y967)==true)
 .ite y968 (
 let y969:=y965.2
 let y970:=y969.1
 .aa (cY y970)<|
 let y971:=((dV y970)==true)
 .ite y971 (
 let y972:=y969.2.1
 .aa (a8 y972)<|
 let y973:=((bE y972)==true)
 .ite y973 (
 .aa (((0:Nat)+2:Nat)≤2)<|
 .aa (((0:Nat)+1:Nat)≤1)<|
 let y974:cC:=(0,())
 let y975:cj:=(y964,y974)
 let y976:bA:=(0,(3,0))
 let y977:ck:=(y975,(((),((),([80],y976))),true))
 .ret (.inr y977)) (
 .ret (.inl (.gJ y964 [80])))) (
 .ret (.inl (.gJ y964 [80])))) (
 .ret (.inl (.gJ y964 [80])))) (
 .aa ((0:Nat) < 1)<|
 .aa ((0:Nat) < 2)<|
 .aa ((1:Nat) < 2)<|
 .aa ((0:Int)≤0)<|
 .aa (0 < (1:Int))<|
 .aa ((0:Int)≤0)<|
 .aa (0 < (1:Int))<|
 .aa (((0:Nat)+2:Nat)≤2)<|
 let y978:ao:=[8,8]
 let y979:=x.2.2
 let y980:=y979.1
 let y981:bF:=(y978,y980)
 .aa (aM y981)<|
 let y982:=((bf y981)==true)
 .ite y982 (
 let y983:=y979.2
 let y984:=y983.1
 .aa (cY y984)<|
 let y985:=((dV y984)==true)
 .ite y985 (
 let y986:=y983.2.1
 .aa (a8 y986)<|
 let y987:=((bE y986)==true)
 .ite y987 (
 .aa (((0:Nat)+2:Nat)≤2)<|
 .aa (((0:Nat)+1:Nat)≤1)<|
 let y988:cC:=(0,())
 let y989:cj:=(y978,y988)
 let y990:bA:=(0,(3,0))
 let y991:ck:=(y989,(((),((),([88],y990))),true))
 .ret (.inr y991)) (
 .ret (.inl (.gJ y978 [88])))) (
 .ret (.inl (.gJ y978 [88])))) (
 .ret (.inl (.gJ y978 [88]))))))))))) (
 .ite y667 (
 .aa ((0:Nat) < 1)<|
 .aa ((0:Nat) < 2)<|
 .aa ((1:Nat) < 2)<|
 .aa ((0:Int)≤0)<|
 .aa (0 < (1:Int))<|
 .aa ((0:Int)≤0)<|
 .aa (0 < (1:Int))<|
 .aa (((0:Nat)+2:Nat)≤2)<|
 let y992:ao:=[8,8]
 let y993:=x.2.2
 let y994:=y993.1
 let y995:bF:=(y992,y994)
 .aa (aM y995)<|
 let y996:=((bf y995)==true)
 .ite y996 (
 let y997:=y993.2
 let y998:=y997.1
 .aa (a8 y998)<|
 let y999:=((bE y998)==true)
 .ite y999 (
 let y1000:=y997.2.1
 .aa (dv y1000)<|
 let y1001:=((eB y1000)==true)
 .ite y1001 (
 .aa (((0:Nat)+2:Nat)≤2)<|
 .aa (((0:Nat)+1:Nat)≤1)<|
 let y1002:cC:=(0,())
 let y1003:cj:=(y992,y1002)
 let y1004:bA:=(0,(0,4))
 let y1005:ck:=(y1003,(((),((),([232],y1004))),true))
 .ret (.inr y1005)) (
 .ret (.inl (.lC y992 [232])))) (
 .ret (.inl (.lC y992 [232])))) (
 .ret (.inl (.lC y992 [232])))) (
 .ite y668 (
 .aa ((0:Nat) < 1)<|
 .aa ((0:Nat) < 1)<|
 .aa ((0:Nat) < 2)<|
 .aa ((1:Nat) < 2)<|
 .aa ((0:Int)≤0)<|
 .aa (0 < (1:Int))<|
 .aa ((0:Int)≤0)<|
 .aa (0 < (2:Int))<|
 .aa (((0:Nat)+2:Nat)≤2)<|
 let y1006:ao:=[8,8]
 let y1007:=x.2.2
 let y1008:=y1007.1
 let y1009:bF:=(y1006,y1008)
 .aa (aM y1009)<|
 let y1010:=((bf y1009)==true)
 .ite y1010 (
 let y1011:=y1007.2
 let y1012:=y1011.1
 .aa (a8 y1012)<|
 let y1013:=((bE y1012)==true)
 .ite y1013 (
 let y1014:=y1011.2.1
 .aa (dv y1014)<|
 let y1015:=((eB y1014)==true)
 .ite y1015 (
 .aa (((0:Nat)+2:Nat)≤2)<|
 .aa (((0:Nat)+1:Nat)≤1)<|
 let y1016:cC:=(0,())
 let y1017:cj:=(y1006,y1016)
 let y1018:bA:=(0,(0,4))
 let y1019:ck:=(y1017,(((),((),([233],y1018))),true))
 .ret (.inr y1019)) (
 .ret (.inl (.kz y1006 [233] [255])))) (
 .ret (.inl (.kz y1006 [233] [255])))) (
 .ret (.inl (.kz y1006 [233] [255])))) (
 .ite y669 (
 .aa ((0:Nat) < 2)<|
 .aa ((1:Nat) < 2)<|
 .aa ((0:Nat) < 2)<|
 .aa ((1:Nat) < 2)<|
 .aa ((0:Int)≤0)<|
 .aa (0 < (1:Int))<|
 .aa ((0:Int)≤0)<|
 .aa (0 < (1:Int))<|
 .aa (((0:Nat)+2:Nat)≤2)<|
 let y1020:ao:=[8,8]
 let y1021:=x.2.2
 let y1022:=y1021.1
 let y1023:bF:=(y1020,y1022)
 .aa (aM y1023)<|
 let y1024:=((bf y1023)==true)
 .ite y1024 (
 let y1025:=y1021.2
 let y1026:=y1025.1
 .aa (a8 y1026)<|
 let y1027:=((bE y1026)==true)
 .ite y1027 (
 let y1028:=y1025.2.1
 .aa (dv y1028)<|
 let y1029:=((eB y1028)==true)
 .ite y1029 (
 .aa (((0:Nat)+2:Nat)≤2)<|
 .aa (((0:Nat)+2:Nat)≤2)<|
 let y1030:cC:=(0,())
 let y1031:cj:=(y1020,y1030)
 let y1032:Int:=(dy .u8 x.2.1 15)
 let y1033:ao:=[15,(aU .u8 128 y1032)]
 let y1034:bA:=(0,(0,4))
 let y1035:ck:=(y1031,(((),((),(y1033,y1034))),true))
 .ret (.inr y1035)) (
 let y1036:Int:=(dy .u8 x.2.1 15)
 let y1037:ao:=[15,(aU .u8 128 y1036)]
 .ret (.inl (.jM y1020 y1037)))) (
 let y1038:Int:=(dy .u8 x.2.1 15)
 let y1039:ao:=[15,(aU .u8 128 y1038)]
 .ret (.inl (.jM y1020 y1039)))) (
 let y1040:Int:=(dy .u8 x.2.1 15)
 let y1041:ao:=[15,(aU .u8 128 y1040)]
 .ret (.inl (.jM y1020 y1041)))) (
 .ite y670 (
 .aa ((0:Nat) < 1)<|
 .aa ((0:Nat) < 2)<|
 .aa ((1:Nat) < 2)<|
 .aa ((0:Int)≤0)<|
 .aa (0 < (1:Int))<|
 .aa ((0:Int)≤0)<|
 .aa (0 < (1:Int))<|
 .aa (((0:Nat)+2:Nat)≤2)<|
 let y1042:ao:=[8,8]
 let y1043:=x.2.2
 let y1044:=y1043.1
 let y1045:bF:=(y1042,y1044)
 .aa (aM y1045)<|
 let y1046:=((bf y1045)==true)
 .ite y1046 (
 let y1047:=y1043.2
 let y1048:=y1047.1
 .aa (a8 y1048)<|
 let y1049:=((bE y1048)==true)
 .ite y1049 (
 let y1050:=y1047.2.1
 .aa (a8 y1050)<|
 let y1051:=((bE y1050)==true)
 .ite y1051 (
 .aa (((0:Nat)+2:Nat)≤2)<|
 .aa (((0:Nat)+1:Nat)≤1)<|
 let y1052:cC:=(0,())
 let y1053:cj:=(y1042,y1052)
 let y1054:bA:=(0,(0,0))
 let y1055:ck:=(y1053,(((),((),([195],y1054))),true))
 .ret (.inr y1055)) (
 .ret (.inl (.gF y1042 [195])))) (
 .ret (.inl (.gF y1042 [195])))) (
 .ret (.inl (.gF y1042 [195])))) (
 let y1056:=(al x.1 34)
 .ite y1056 (
 .aa ((0:Nat) < 1)<|
 .aa ((0:Nat) < 2)<|
 .aa ((1:Nat) < 2)<|
 .aa ((0:Int)≤0)<|
 .aa (0 < (1:Int))<|
 .aa ((0:Int)≤0)<|
 .aa (0 < (1:Int))<|
 .aa (((0:Nat)+2:Nat)≤2)<|
 let y1057:ao:=[8,8]
 let y1058:=x.2.2
 let y1059:=y1058.1
 let y1060:bF:=(y1057,y1059)
 .aa (aM y1060)<|
 let y1061:=((bf y1060)==true)
 .ite y1061 (
 let y1062:=y1058.2
 let y1063:=y1062.1
 .aa (a8 y1063)<|
 let y1064:=((bE y1063)==true)
 .ite y1064 (
 let y1065:=y1062.2.1
 .aa (a8 y1065)<|
 let y1066:=((bE y1065)==true)
 .ite y1066 (
 .aa (((0:Nat)+2:Nat)≤2)<|
 .aa (((0:Nat)+1:Nat)≤1)<|
 let y1067:cC:=(0,())
 let y1068:cj:=(y1057,y1067)
 let y1069:bA:=(0,(0,0))
 let y1070:ck:=(y1068,(((),((),([144],y1069))),true))
 .ret (.inr y1070)) (
 .ret (.inl (.gF y1057 [144])))) (
 .ret (.inl (.gF y1057 [144])))) (
 .ret (.inl (.gF y1057 [144])))) (
 let y1071:=(al x.1 24)
 .ite y1071 (
 .aa ((0:Nat) < 1)<|
 .aa ((0:Nat) < 2)<|
 .aa ((1:Nat) < 2)<|
 .aa ((0:Int)≤0)<|
 .aa (0 < (1:Int))<|
 .aa ((0:Int)≤0)<|
 .aa (0 < (1:Int))<|
 .aa (((0:Nat)+2:Nat)≤2)<|
 let y1072:ao:=[8,8]
 let y1073:=x.2.2
 let y1074:=y1073.1
 let y1075:bF:=(y1072,y1074)
 .aa (aM y1075)<|
 let y1076:=((bf y1075)==true)
 .ite y1076 (
 let y1077:=y1073.2
 let y1078:=y1077.1
 .aa (cY y1078)<|
 let y1079:=((dV y1078)==true)
 .ite y1079 (
 let y1080:=y1077.2.1
 .aa (a8 y1080)<|
 let y1081:=((bE y1080)==true)
 .ite y1081 (
 .aa (((0:Nat)+2:Nat)≤2)<|
 .aa (((0:Nat)+1:Nat)≤1)<|
 let y1082:cC:=(0,())
 let y1083:cj:=(y1072,y1082)
 let y1084:bA:=(0,(3,0))
 let y1085:ck:=(y1083,(((),((),([80],y1084))),true))
 .ret (.inr y1085)) (
 .ret (.inl (.gJ y1072 [80])))) (
 .ret (.inl (.gJ y1072 [80])))) (
 .ret (.inl (.gJ y1072 [80])))) (
 .aa ((0:Nat) < 1)<|
 .aa ((0:Nat) < 2)<|
 .aa ((1:Nat) < 2)<|
 .aa ((0:Int)≤0)<|
 .aa (0 < (1:Int))<|
 .aa ((0:Int)≤0)<|
 .aa (0 < (1:Int))<|
 .aa (((0:Nat)+2:Nat)≤2)<|
 let y1086:ao:=[8,8]
 let y1087:=x.2.2
 let y1088:=y1087.1
 let y1089:bF:=(y1086,y1088)
 .aa (aM y1089)<|
 let y1090:=((bf y1089)==true)
 .ite y1090 (
 let y1091:=y1087.2
 let y1092:=y1091.1
 .aa (cY y1092)<|
 let y1093:=((dV y1092)==true)
 .ite y1093 (
 let y1094:=y1091.2.1
 .aa (a8 y1094)<|
 let y1095:=((bE y1094)==true)
 .ite y1095 (
 .aa (((0:Nat)+2:Nat)≤2)<|
 .aa (((0:Nat)+1:Nat)≤1)<|
 let y1096:cC:=(0,())
 let y1097:cj:=(y1086,y1096)
 let y1098:bA:=(0,(3,0))
 let y1099:ck:=(y1097,(((),((),([88],y1098))),true))
 .ret (.inr y1099)) (
 .ret (.inl (.gJ y1086 [88])))) (
 .ret (.inl (.gJ y1086 [88])))) (
 .ret (.inl (.gJ y1086 [88]))))))))))) (
 .ite y667 (
 .aa ((0:Nat) < 1)<|
 .aa ((0:Nat) < 2)<|
 .aa ((1:Nat) < 2)<|
 .aa ((0:Int)≤0)<|
 .aa (0 < (1:Int))<|
 .aa ((0:Int)≤0)<|
 .aa (0 < (1:Int))<|
 .aa (((0:Nat)+2:Nat)≤2)<|
 let y1100:ao:=[8,8]
 let y1101:=x.2.2
 let y1102:=y1101.1
 let y1103:bF:=(y1100,y1102)
 .aa (aM y1103)<|
 let y1104:=((bf y1103)==true)
 .ite y1104 (
 let y1105:=y1101.2
 let y1106:=y1105.1
 .aa (a8 y1106)<|
 let y1107:=((bE y1106)==true)
 .ite y1107 (
 let y1108:=y1105.2.1
 .aa (dv y1108)<|
 let y1109:=((eB y1108)==true)
 .ite y1109 (
 .aa (((0:Nat)+2:Nat)≤2)<|
 .aa (((0:Nat)+1:Nat)≤1)<|
 let y1110:cC:=(0,())
 let y1111:cj:=(y1100,y1110)
 let y1112:bA:=(0,(0,4))
 let y1113:ck:=(y1111,(((),((),([232],y1112))),true))
 .ret (.inr y1113)) (
 .ret (.inl (.lC y1100 [232])))) (
 .ret (.inl (.lC y1100 [232])))) (
 .ret (.inl (.lC y1100 [232])))) (
 .ite y668 (
 .aa ((0:Nat) < 1)<|
 .aa ((0:Nat) < 1)<|
 .aa ((0:Nat) < 2)<|
 .aa ((1:Nat) < 2)<|
 .aa ((0:Int)≤0)<|
 .aa (0 < (1:Int))<|
 .aa ((0:Int)≤0)<|
 .aa (0 < (2:Int))<|
 .aa (((0:Nat)+2:Nat)≤2)<|
 let y1114:ao:=[8,8]
 let y1115:=x.2.2
 let y1116:=y1115.1
 let y1117:bF:=(y1114,y1116)
 .aa (aM y1117)<|
 let y1118:=((bf y1117)==true)
 .ite y1118 (
 let y1119:=y1115.2
 let y1120:=y1119.1
 .aa (a8 y1120)<|
 let y1121:=((bE y1120)==true)
 .ite y1121 (
 let y1122:=y1119.2.1
 .aa (dv y1122)<|
 let y1123:=((eB y1122)==true)
 .ite y1123 (
 .aa (((0:Nat)+2:Nat)≤2)<|
 .aa (((0:Nat)+1:Nat)≤1)<|
 let y1124:cC:=(0,())
 let y1125:cj:=(y1114,y1124)
 let y1126:bA:=(0,(0,4))
 let y1127:ck:=(y1125,(((),((),([233],y1126))),true))
 .ret (.inr y1127)) (
 .ret (.inl (.kz y1114 [233] [255])))) (
 .ret (.inl (.kz y1114 [233] [255])))) (
 .ret (.inl (.kz y1114 [233] [255])))) (
 .ite y669 (
 .aa ((0:Nat) < 2)<|
 .aa ((1:Nat) < 2)<|
 .aa ((0:Nat) < 2)<|
 .aa ((1:Nat) < 2)<|
 .aa ((0:Int)≤0)<|
 .aa (0 < (1:Int))<|
 .aa ((0:Int)≤0)<|
 .aa (0 < (1:Int))<|
 .aa (((0:Nat)+2:Nat)≤2)<|
 let y1128:ao:=[8,8]
 let y1129:=x.2.2
 let y1130:=y1129.1
 let y1131:bF:=(y1128,y1130)
 .aa (aM y1131)<|
 let y1132:=((bf y1131)==true)
 .ite y1132 (
 let y1133:=y1129.2
 let y1134:=y1133.1
 .aa (a8 y1134)<|
 let y1135:=((bE y1134)==true)
 .ite y1135 (
 let y1136:=y1133.2.1
 .aa (dv y1136)<|
 let y1137:=((eB y1136)==true)
 .ite y1137 (
 .aa (((0:Nat)+2:Nat)≤2)<|
 .aa (((0:Nat)+2:Nat)≤2)<|
 let y1138:cC:=(0,())
 let y1139:cj:=(y1128,y1138)
 let y1140:Int:=(dy .u8 x.2.1 15)
 let y1141:ao:=[15,(aU .u8 128 y1140)]
 let y1142:bA:=(0,(0,4))
 let y1143:ck:=(y1139,(((),((),(y1141,y1142))),true))
 .ret (.inr y1143)) (
 let y1144:Int:=(dy .u8 x.2.1 15)
 let y1145:ao:=[15,(aU .u8 128 y1144)]
 .ret (.inl (.jM y1128 y1145)))) (
 let y1146:Int:=(dy .u8 x.2.1 15)
 let y1147:ao:=[15,(aU .u8 128 y1146)]
 .ret (.inl (.jM y1128 y1147)))) (
 let y1148:Int:=(dy .u8 x.2.1 15)
 let y1149:ao:=[15,(aU .u8 128 y1148)]
 .ret (.inl (.jM y1128 y1149)))) (
 let y1150:=(al x.1 27)
 .ite y1150 (
 .aa ((0:Nat) < 1)<|
 .aa ((0:Nat) < 2)<|
 .aa ((1:Nat) < 2)<|
 .aa ((0:Int)≤0)<|
 .aa (0 < (1:Int))<|
 .aa ((0:Int)≤0)<|
 .aa (0 < (1:Int))<|
 .aa (((0:Nat)+2:Nat)≤2)<|
 let y1151:ao:=[8,8]
 let y1152:=x.2.2
 let y1153:=y1152.1
 let y1154:bF:=(y1151,y1153)
 .aa (aM y1154)<|
 let y1155:=((bf y1154)==true)
 .ite y1155 (
 let y1156:=y1152.2
 let y1157:=y1156.1
 .aa (a8 y1157)<|
 let y1158:=((bE y1157)==true)
 .ite y1158 (
 let y1159:=y1156.2.1
 .aa (a8 y1159)<|
 let y1160:=((bE y1159)==true)
 .ite y1160 (
 .aa (((0:Nat)+2:Nat)≤2)<|
 .aa (((0:Nat)+1:Nat)≤1)<|
 let y1161:cC:=(0,())
 let y1162:cj:=(y1151,y1161)
 let y1163:bA:=(0,(0,0))
 let y1164:ck:=(y1162,(((),((),([195],y1163))),true))
 .ret (.inr y1164)) (
 .ret (.inl (.gF y1151 [195])))) (
 .ret (.inl (.gF y1151 [195])))) (
 .ret (.inl (.gF y1151 [195])))) (
 let y1165:=(al x.1 34)
 .ite y1165 (
 .aa ((0:Nat) < 1)<|
 .aa ((0:Nat) < 2)<|
 .aa ((1:Nat) < 2)<|
 .aa ((0:Int)≤0)<|
 .aa (0 < (1:Int))<|
 .aa ((0:Int)≤0)<|
 .aa (0 < (1:Int))<|
 .aa (((0:Nat)+2:Nat)≤2)<|
 let y1166:ao:=[8,8]
 let y1167:=x.2.2
 let y1168:=y1167.1
 let y1169:bF:=(y1166,y1168)
 .aa (aM y1169)<|
 let y1170:=((bf y1169)==true)
 .ite y1170 (
 let y1171:=y1167.2
 let y1172:=y1171.1
 .aa (a8 y1172)<|
 let y1173:=((bE y1172)==true)
 .ite y1173 (
 let y1174:=y1171.2.1
 .aa (a8 y1174)<|
 let y1175:=((bE y1174)==true)
 .ite y1175 (
 .aa (((0:Nat)+2:Nat)≤2)<|
 .aa (((0:Nat)+1:Nat)≤1)<|
 let y1176:cC:=(0,())
 let y1177:cj:=(y1166,y1176)
 let y1178:bA:=(0,(0,0))
 let y1179:ck:=(y1177,(((),((),([144],y1178))),true))
 .ret (.inr y1179)) (
 .ret (.inl (.gF y1166 [144])))) (
 .ret (.inl (.gF y1166 [144])))) (
 .ret (.inl (.gF y1166 [144])))) (
 let y1180:=(al x.1 24)
 .ite y1180 (
 .aa ((0:Nat) < 1)<|
 .aa ((0:Nat) < 2)<|
 .aa ((1:Nat) < 2)<|
 .aa ((0:Int)≤0)<|
 .aa (0 < (1:Int))<|
 .aa ((0:Int)≤0)<|
 .aa (0 < (1:Int))<|
 .aa (((0:Nat)+2:Nat)≤2)<|
 let y1181:ao:=[8,8]
 let y1182:=x.2.2
 let y1183:=y1182.1
 let y1184:bF:=(y1181,y1183)
 .aa (aM y1184)<|
 let y1185:=((bf y1184)==true)
 .ite y1185 (
 let y1186:=y1182.2
 let y1187:=y1186.1
 .aa (cY y1187)<|
 let y1188:=((dV y1187)==true)
 .ite y1188 (
 let y1189:=y1186.2.1
 .aa (a8 y1189)<|
 let y1190:=((bE y1189)==true)
 .ite y1190 (
 .aa (((0:Nat)+2:Nat)≤2)<|
 .aa (((0:Nat)+1:Nat)≤1)<|
 let y1191:cC:=(0,())
 let y1192:cj:=(y1181,y1191)
 let y1193:bA:=(0,(3,0))
 let y1194:ck:=(y1192,(((),((),([80],y1193))),true))
 .ret (.inr y1194)) (
 .ret (.inl (.gJ y1181 [80])))) (
 .ret (.inl (.gJ y1181 [80])))) (
 .ret (.inl (.gJ y1181 [80])))) (
 .aa ((0:Nat) < 1)<|
 .aa ((0:Nat) < 2)<|
 .aa ((1:Nat) < 2)<|
 .aa ((0:Int)≤0)<|
 .aa (0 < (1:Int))<|
 .aa ((0:Int)≤0)<|
 .aa (0 < (1:Int))<|
 .aa (((0:Nat)+2:Nat)≤2)<|
 let y1195:ao:=[8,8]
 let y1196:=x.2.2
 let y1197:=y1196.1
 let y1198:bF:=(y1195,y1197)
 .aa (aM y1198)<|
 let y1199:=((bf y1198)==true)
 .ite y1199 (
 let y1200:=y1196.2
 let y1201:=y1200.1
 .aa (cY y1201)<|
 let y1202:=((dV y1201)==true)
 .ite y1202 (
 let y1203:=y1200.2.1
 .aa (a8 y1203)<|
 let y1204:=((bE y1203)==true)
 .ite y1204 (
 .aa (((0:Nat)+2:Nat)≤2)<|
 .aa (((0:Nat)+1:Nat)≤1)<|
 let y1205:cC:=(0,())
 let y1206:cj:=(y1195,y1205)
 let y1207:bA:=(0,(3,0))
 let y1208:ck:=(y1206,(((),((),([88],y1207))),true))
 .ret (.inr y1208)) (
 .ret (.inl (.gJ y1195 [88])))) (
 .ret (.inl (.gJ y1195 [88])))) (
 .ret (.inl (.gJ y1195 [88]))))))))))) (
 .ite y667 (
 .aa ((0:Nat) < 1)<|
 .aa ((0:Nat) < 2)<|
 .aa ((1:Nat) < 2)<|
 .aa ((0:Int)≤0)<|
 .aa (0 < (1:Int))<|
 .aa ((0:Int)≤0)<|
 .aa (0 < (1:Int))<|
 .aa (((0:Nat)+2:Nat)≤2)<|
 let y1209:ao:=[8,8]
 let y1210:=x.2.2
 let y1211:=y1210.1
 let y1212:bF:=(y1209,y1211)
 .aa (aM y1212)<|
 let y1213:=((bf y1212)==true)
 .ite y1213 (
 let y1214:=y1210.2
 let y1215:=y1214.1
 .aa (a8 y1215)<|
 let y1216:=((bE y1215)==true)
 .ite y1216 (
 let y1217:=y1214.2.1
 .aa (dv y1217)<|
 let y1218:=((eB y1217)==true)
 .ite y1218 (
 .aa (((0:Nat)+2:Nat)≤2)<|
 .aa (((0:Nat)+1:Nat)≤1)<|
 let y1219:cC:=(0,())
 let y1220:cj:=(y1209,y1219)
 let y1221:bA:=(0,(0,4))
 let y1222:ck:=(y1220,(((),((),([232],y1221))),true))
 .ret (.inr y1222)) (
 .ret (.inl (.lC y1209 [232])))) (
 .ret (.inl (.lC y1209 [232])))) (
 .ret (.inl (.lC y1209 [232])))) (
 .ite y668 (
 .aa ((0:Nat) < 1)<|
 .aa ((0:Nat) < 1)<|
 .aa ((0:Nat) < 2)<|
 .aa ((1:Nat) < 2)<|
 .aa ((0:Int)≤0)<|
 .aa (0 < (1:Int))<|
 .aa ((0:Int)≤0)<|
 .aa (0 < (2:Int))<|
 .aa (((0:Nat)+2:Nat)≤2)<|
 let y1223:ao:=[8,8]
 let y1224:=x.2.2
 let y1225:=y1224.1
 let y1226:bF:=(y1223,y1225)
 .aa (aM y1226)<|
 let y1227:=((bf y1226)==true)
 .ite y1227 (
 let y1228:=y1224.2
 let y1229:=y1228.1
 .aa (a8 y1229)<|
 let y1230:=((bE y1229)==true)
 .ite y1230 (
 let y1231:=y1228.2.1
 .aa (dv y1231)<|
 let y1232:=((eB y1231)==true)
 .ite y1232 (
 .aa (((0:Nat)+2:Nat)≤2)<|
 .aa (((0:Nat)+1:Nat)≤1)<|
 let y1233:cC:=(0,())
 let y1234:cj:=(y1223,y1233)
 let y1235:bA:=(0,(0,4))
 let y1236:ck:=(y1234,(((),((),([233],y1235))),true))
 .ret (.inr y1236)) (
 .ret (.inl (.kz y1223 [233] [255])))) (
 .ret (.inl (.kz y1223 [233] [255])))) (
 .ret (.inl (.kz y1223 [233] [255])))) (
 let y1237:=(al x.1 29)
 .ite y1237 (
 .aa ((0:Nat) < 2)<|
 .aa ((1:Nat) < 2)<|
 .aa ((0:Nat) < 2)<|
 .aa ((1:Nat) < 2)<|
 .aa ((0:Int)≤0)<|
 .aa (0 < (1:Int))<|
 .aa ((0:Int)≤0)<|
 .aa (0 < (1:Int))<|
 .aa (((0:Nat)+2:Nat)≤2)<|
 let y1238:ao:=[8,8]
 let y1239:=x.2.2
 let y1240:=y1239.1
 let y1241:bF:=(y1238,y1240)
 .aa (aM y1241)<|
 let y1242:=((bf y1241)==true)
 .ite y1242 (
 let y1243:=y1239.2
 let y1244:=y1243.1
 .aa (a8 y1244)<|
 let y1245:=((bE y1244)==true)
 .ite y1245 (
 let y1246:=y1243.2.1
 .aa (dv y1246)<|
 let y1247:=((eB y1246)==true)
 .ite y1247 (
 .aa (((0:Nat)+2:Nat)≤2)<|
 .aa (((0:Nat)+2:Nat)≤2)<|
 let y1248:cC:=(0,())
 let y1249:cj:=(y1238,y1248)
 let y1250:Int:=(dy .u8 x.2.1 15)
 let y1251:ao:=[15,(aU .u8 128 y1250)]
 let y1252:bA:=(0,(0,4))
 let y1253:ck:=(y1249,(((),((),(y1251,y1252))),true))
 .ret (.inr y1253)) (
 let y1254:Int:=(dy .u8 x.2.1 15)
 let y1255:ao:=[15,(aU .u8 128 y1254)]
 .ret (.inl (.jM y1238 y1255)))) (
 let y1256:Int:=(dy .u8 x.2.1 15)
 let y1257:ao:=[15,(aU .u8 128 y1256)]
 .ret (.inl (.jM y1238 y1257)))) (
 let y1258:Int:=(dy .u8 x.2.1 15)
 let y1259:ao:=[15,(aU .u8 128 y1258)]
 .ret (.inl (.jM y1238 y1259)))) (
 let y1260:=(al x.1 27)
 .ite y1260 (
 .aa ((0:Nat) < 1)<|
 .aa ((0:Nat) < 2)<|
 .aa ((1:Nat) < 2)<|
 .aa ((0:Int)≤0)<|
 .aa (0 < (1:Int))<|
 .aa ((0:Int)≤0)<|
 .aa (0 < (1:Int))<|
 .aa (((0:Nat)+2:Nat)≤2)<|
 let y1261:ao:=[8,8]
 let y1262:=x.2.2
 let y1263:=y1262.1
 let y1264:bF:=(y1261,y1263)
 .aa (aM y1264)<|
 let y1265:=((bf y1264)==true)
 .ite y1265 (
 let y1266:=y1262.2
 let y1267:=y1266.1
 .aa (a8 y1267)<|
 let y1268:=((bE y1267)==true)
 .ite y1268 (
 let y1269:=y1266.2.1
 .aa (a8 y1269)<|
 let y1270:=((bE y1269)==true)
 .ite y1270 (
 .aa (((0:Nat)+2:Nat)≤2)<|
 .aa (((0:Nat)+1:Nat)≤1)<|
 let y1271:cC:=(0,())
 let y1272:cj:=(y1261,y1271)
 let y1273:bA:=(0,(0,0))
 let y1274:ck:=(y1272,(((),((),([195],y1273))),true))
 .ret (.inr y1274)) (
 .ret (.inl (.gF y1261 [195])))) (
 .ret (.inl (.gF y1261 [195])))) (
 .ret (.inl (.gF y1261 [195])))) (
 let y1275:=(al x.1 34)
 .ite y1275 (
 .aa ((0:Nat) < 1)<|
 .aa ((0:Nat) < 2)<|
 .aa ((1:Nat) < 2)<|
 .aa ((0:Int)≤0)<|
 .aa (0 < (1:Int))<|
 .aa ((0:Int)≤0)<|
 .aa (0 < (1:Int))<|
 .aa (((0:Nat)+2:Nat)≤2)<|
 let y1276:ao:=[8,8]
 let y1277:=x.2.2
 let y1278:=y1277.1
 let y1279:bF:=(y1276,y1278)
 .aa (aM y1279)<|
 let y1280:=((bf y1279)==true)
 .ite y1280 (
 let y1281:=y1277.2
 let y1282:=y1281.1
 .aa (a8 y1282)<|
 let y1283:=((bE y1282)==true)
 .ite y1283 (
 let y1284:=y1281.2.1
 .aa (a8 y1284)<|
 let y1285:=((bE y1284)==true)
 .ite y1285 (
 .aa (((0:Nat)+2:Nat)≤2)<|
 .aa (((0:Nat)+1:Nat)≤1)<|
 let y1286:cC:=(0,())
 let y1287:cj:=(y1276,y1286)
 let y1288:bA:=(0,(0,0))
 let y1289:ck:=(y1287,(((),((),([144],y1288))),true))
 .ret (.inr y1289)) (
 .ret (.inl (.gF y1276 [144])))) (
 .ret (.inl (.gF y1276 [144])))) (
 .ret (.inl (.gF y1276 [144])))) (
 let y1290:=(al x.1 24)
 .ite y1290 (
 .aa ((0:Nat) < 1)<|
 .aa ((0:Nat) < 2)<|
 .aa ((1:Nat) < 2)<|
 .aa ((0:Int)≤0)<|
 .aa (0 < (1:Int))<|
 .aa ((0:Int)≤0)<|
 .aa (0 < (1:Int))<|
 .aa (((0:Nat)+2:Nat)≤2)<|
 let y1291:ao:=[8,8]
 let y1292:=x.2.2
 let y1293:=y1292.1
 let y1294:bF:=(y1291,y1293)
 .aa (aM y1294)<|
 let y1295:=((bf y1294)==true)
 .ite y1295 (
 let y1296:=y1292.2
 let y1297:=y1296.1
 .aa (cY y1297)<|
 let y1298:=((dV y1297)==true)
 .ite y1298 (
 let y1299:=y1296.2.1
 .aa (a8 y1299)<|
 let y1300:=((bE y1299)==true)
 .ite y1300 (
 .aa (((0:Nat)+2:Nat)≤2)<|
 .aa (((0:Nat)+1:Nat)≤1)<|
 let y1301:cC:=(0,())
 let y1302:cj:=(y1291,y1301)
 let y1303:bA:=(0,(3,0))
 let y1304:ck:=(y1302,(((),((),([80],y1303))),true))
 .ret (.inr y1304)) (
 .ret (.inl (.gJ y1291 [80])))) (
 .ret (.inl (.gJ y1291 [80])))) (
 .ret (.inl (.gJ y1291 [80])))) (
 .aa ((0:Nat) < 1)<|
 .aa ((0:Nat) < 2)<|
 .aa ((1:Nat) < 2)<|
 .aa ((0:Int)≤0)<|
 .aa (0 < (1:Int))<|
 .aa ((0:Int)≤0)<|
 .aa (0 < (1:Int))<|
 .aa (((0:Nat)+2:Nat)≤2)<|
 let y1305:ao:=[8,8]
 let y1306:=x.2.2
 let y1307:=y1306.1
 let y1308:bF:=(y1305,y1307)
 .aa (aM y1308)<|
 let y1309:=((bf y1308)==true)
 .ite y1309 (
 let y1310:=y1306.2
 let y1311:=y1310.1
 .aa (cY y1311)<|
 let y1312:=((dV y1311)==true)
 .ite y1312 (
 let y1313:=y1310.2.1
 .aa (a8 y1313)<|
 let y1314:=((bE y1313)==true)
 .ite y1314 (
 .aa (((0:Nat)+2:Nat)≤2)<|
 .aa (((0:Nat)+1:Nat)≤1)<|
 let y1315:cC:=(0,())
 let y1316:cj:=(y1305,y1315)
 let y1317:bA:=(0,(3,0))
 let y1318:ck:=(y1316,(((),((),([88],y1317))),true))
 .ret (.inr y1318)) (
 .ret (.inl (.gJ y1305 [88])))) (
 .ret (.inl (.gJ y1305 [88])))) (
 .ret (.inl (.gJ y1305 [88]))))))))))) (
 .ite y667 (
 .aa ((0:Nat) < 1)<|
 .aa ((0:Nat) < 2)<|
 .aa ((1:Nat) < 2)<|
 .aa ((0:Int)≤0)<|
 .aa (0 < (1:Int))<|
 .aa ((0:Int)≤0)<|
 .aa (0 < (1:Int))<|
 .aa (((0:Nat)+2:Nat)≤2)<|
 let y1319:ao:=[8,8]
 let y1320:=x.2.2
 let y1321:=y1320.1
 let y1322:bF:=(y1319,y1321)
 .aa (aM y1322)<|
 let y1323:=((bf y1322)==true)
 .ite y1323 (
 let y1324:=y1320.2
 let y1325:=y1324.1
 .aa (a8 y1325)<|
 let y1326:=((bE y1325)==true)
 .ite y1326 (
 let y1327:=y1324.2.1
 .aa (dv y1327)<|
 let y1328:=((eB y1327)==true)
 .ite y1328 (
 .aa (((0:Nat)+2:Nat)≤2)<|
 .aa (((0:Nat)+1:Nat)≤1)<|
 let y1329:cC:=(0,())
 let y1330:cj:=(y1319,y1329)
 let y1331:bA:=(0,(0,4))
 let y1332:ck:=(y1330,(((),((),([232],y1331))),true))
 .ret (.inr y1332)) (
 .ret (.inl (.lC y1319 [232])))) (
 .ret (.inl (.lC y1319 [232])))) (
 .ret (.inl (.lC y1319 [232])))) (
 let y1333:=(al x.1 28)
 .ite y1333 (
 .aa ((0:Nat) < 1)<|
 .aa ((0:Nat) < 1)<|
 .aa ((0:Nat) < 2)<|
 .aa ((1:Nat) < 2)<|
 .aa ((0:Int)≤0)<|
 .aa (0 < (1:Int))<|
 .aa ((0:Int)≤0)<|
 .aa (0 < (2:Int))<|
 .aa (((0:Nat)+2:Nat)≤2)<|
 let y1334:ao:=[8,8]
 let y1335:=x.2.2
 let y1336:=y1335.1
 let y1337:bF:=(y1334,y1336)
 .aa (aM y1337)<|
 let y1338:=((bf y1337)==true)
 .ite y1338 (
 let y1339:=y1335.2
 let y1340:=y1339.1
 .aa (a8 y1340)<|
 let y1341:=((bE y1340)==true)
 .ite y1341 (
 let y1342:=y1339.2.1
 .aa (dv y1342)<|
 let y1343:=((eB y1342)==true)
 .ite y1343 (
 .aa (((0:Nat)+2:Nat)≤2)<|
 .aa (((0:Nat)+1:Nat)≤1)<|
 let y1344:cC:=(0,())
 let y1345:cj:=(y1334,y1344)
 let y1346:bA:=(0,(0,4))
 let y1347:ck:=(y1345,(((),((),([233],y1346))),true))
 .ret (.inr y1347)) (
 .ret (.inl (.kz y1334 [233] [255])))) (
 .ret (.inl (.kz y1334 [233] [255])))) (
 .ret (.inl (.kz y1334 [233] [255])))) (
 let y1348:=(al x.1 29)
 .ite y1348 (
 .aa ((0:Nat) < 2)<|
 .aa ((1:Nat) < 2)<|
 .aa ((0:Nat) < 2)<|
 .aa ((1:Nat) < 2)<|
 .aa ((0:Int)≤0)<|
 .aa (0 < (1:Int))<|
 .aa ((0:Int)≤0)<|
 .aa (0 < (1:Int))<|
 .aa (((0:Nat)+2:Nat)≤2)<|
 let y1349:ao:=[8,8]
 let y1350:=x.2.2
 let y1351:=y1350.1
 let y1352:bF:=(y1349,y1351)
 .aa (aM y1352)<|
 let y1353:=((bf y1352)==true)
 .ite y1353 (
 let y1354:=y1350.2
 let y1355:=y1354.1
 .aa (a8 y1355)<|
 let y1356:=((bE y1355)==true)
 .ite y1356 (
 let y1357:=y1354.2.1
 .aa (dv y1357)<|
 let y1358:=((eB y1357)==true)
 .ite y1358 (
 .aa (((0:Nat)+2:Nat)≤2)<|
 .aa (((0:Nat)+2:Nat)≤2)<|
 let y1359:cC:=(0,())
 let y1360:cj:=(y1349,y1359)
 let y1361:Int:=(dy .u8 x.2.1 15)
 let y1362:ao:=[15,(aU .u8 128 y1361)]
 let y1363:bA:=(0,(0,4))
 let y1364:ck:=(y1360,(((),((),(y1362,y1363))),true))
 .ret (.inr y1364)) (
 let y1365:Int:=(dy .u8 x.2.1 15)
 let y1366:ao:=[15,(aU .u8 128 y1365)]
 .ret (.inl (.jM y1349 y1366)))) (
 let y1367:Int:=(dy .u8 x.2.1 15)
 let y1368:ao:=[15,(aU .u8 128 y1367)]
 .ret (.inl (.jM y1349 y1368)))) (
 let y1369:Int:=(dy .u8 x.2.1 15)
 let y1370:ao:=[15,(aU .u8 128 y1369)]
 .ret (.inl (.jM y1349 y1370)))) (
 let y1371:=(al x.1 27)
 .ite y1371 (
 .aa ((0:Nat) < 1)<|
 .aa ((0:Nat) < 2)<|
 .aa ((1:Nat) < 2)<|
 .aa ((0:Int)≤0)<|
 .aa (0 < (1:Int))<|
 .aa ((0:Int)≤0)<|
 .aa (0 < (1:Int))<|
 .aa (((0:Nat)+2:Nat)≤2)<|
 let y1372:ao:=[8,8]
 let y1373:=x.2.2
 let y1374:=y1373.1
 let y1375:bF:=(y1372,y1374)
 .aa (aM y1375)<|
 let y1376:=((bf y1375)==true)
 .ite y1376 (
 let y1377:=y1373.2
 let y1378:=y1377.1
 .aa (a8 y1378)<|
 let y1379:=((bE y1378)==true)
 .ite y1379 (
 let y1380:=y1377.2.1
 .aa (a8 y1380)<|
 let y1381:=((bE y1380)==true)
 .ite y1381 (
 .aa (((0:Nat)+2:Nat)≤2)<|
 .aa (((0:Nat)+1:Nat)≤1)<|
 let y1382:cC:=(0,())
 let y1383:cj:=(y1372,y1382)
 let y1384:bA:=(0,(0,0))
 let y1385:ck:=(y1383,(((),((),([195],y1384))),true))
 .ret (.inr y1385)) (
 .ret (.inl (.gF y1372 [195])))) (
 .ret (.inl (.gF y1372 [195])))) (
 .ret (.inl (.gF y1372 [195])))) (
 let y1386:=(al x.1 34)
 .ite y1386 (
 .aa ((0:Nat) < 1)<|
 .aa ((0:Nat) < 2)<|
 .aa ((1:Nat) < 2)<|
 .aa ((0:Int)≤0)<|
 .aa (0 < (1:Int))<|
 .aa ((0:Int)≤0)<|
 .aa (0 < (1:Int))<|
 .aa (((0:Nat)+2:Nat)≤2)<|
 let y1387:ao:=[8,8]
 let y1388:=x.2.2
 let y1389:=y1388.1
 let y1390:bF:=(y1387,y1389)
 .aa (aM y1390)<|
 let y1391:=((bf y1390)==true)
 .ite y1391 (
 let y1392:=y1388.2
 let y1393:=y1392.1
 .aa (a8 y1393)<|
 let y1394:=((bE y1393)==true)
 .ite y1394 (
 let y1395:=y1392.2.1
 .aa (a8 y1395)<|
 let y1396:=((bE y1395)==true)
 .ite y1396 (
 .aa (((0:Nat)+2:Nat)≤2)<|
 .aa (((0:Nat)+1:Nat)≤1)<|
 let y1397:cC:=(0,())
 let y1398:cj:=(y1387,y1397)
 let y1399:bA:=(0,(0,0))
 let y1400:ck:=(y1398,(((),((),([144],y1399))),true))
 .ret (.inr y1400)) (
 .ret (.inl (.gF y1387 [144])))) (
 .ret (.inl (.gF y1387 [144])))) (
 .ret (.inl (.gF y1387 [144])))) (
 let y1401:=(al x.1 24)
 .ite y1401 (
 .aa ((0:Nat) < 1)<|
 .aa ((0:Nat) < 2)<|
 .aa ((1:Nat) < 2)<|
 .aa ((0:Int)≤0)<|
 .aa (0 < (1:Int))<|
 .aa ((0:Int)≤0)<|
 .aa (0 < (1:Int))<|
 .aa (((0:Nat)+2:Nat)≤2)<|
 let y1402:ao:=[8,8]
 let y1403:=x.2.2
 let y1404:=y1403.1
 let y1405:bF:=(y1402,y1404)
 .aa (aM y1405)<|
 let y1406:=((bf y1405)==true)
 .ite y1406 (
 let y1407:=y1403.2
 let y1408:=y1407.1
 .aa (cY y1408)<|
 let y1409:=((dV y1408)==true)
 .ite y1409 (
 let y1410:=y1407.2.1
 .aa (a8 y1410)<|
 let y1411:=((bE y1410)==true)
 .ite y1411 (
 .aa (((0:Nat)+2:Nat)≤2)<|
 .aa (((0:Nat)+1:Nat)≤1)<|
 let y1412:cC:=(0,())
 let y1413:cj:=(y1402,y1412)
 let y1414:bA:=(0,(3,0))
 let y1415:ck:=(y1413,(((),((),([80],y1414))),true))
 .ret (.inr y1415)) (
 .ret (.inl (.gJ y1402 [80])))) (
 .ret (.inl (.gJ y1402 [80])))) (
 .ret (.inl (.gJ y1402 [80])))) (
 .aa ((0:Nat) < 1)<|
 .aa ((0:Nat) < 2)<|
 .aa ((1:Nat) < 2)<|
 .aa ((0:Int)≤0)<|
 .aa (0 < (1:Int))<|
 .aa ((0:Int)≤0)<|
 .aa (0 < (1:Int))<|
 .aa (((0:Nat)+2:Nat)≤2)<|
 let y1416:ao:=[8,8]
 let y1417:=x.2.2
 let y1418:=y1417.1
 let y1419:bF:=(y1416,y1418)
 .aa (aM y1419)<|
 let y1420:=((bf y1419)==true)
 .ite y1420 (
 let y1421:=y1417.2
 let y1422:=y1421.1
 .aa (cY y1422)<|
 let y1423:=((dV y1422)==true)
 .ite y1423 (
 let y1424:=y1421.2.1
 .aa (a8 y1424)<|
 let y1425:=((bE y1424)==true)
 .ite y1425 (
 .aa (((0:Nat)+2:Nat)≤2)<|
 .aa (((0:Nat)+1:Nat)≤1)<|
 let y1426:cC:=(0,())
 let y1427:cj:=(y1416,y1426)
 let y1428:bA:=(0,(3,0))
 let y1429:ck:=(y1427,(((),((),([88],y1428))),true))
 .ret (.inr y1429)) (
 .ret (.inl (.gJ y1416 [88])))) (
 .ret (.inl (.gJ y1416 [88])))) (
 .ret (.inl (.gJ y1416 [88])))))))))))))))))))))))))))))))))))
 | .h1 v43 v59 v65 v68 v69 v70 v71=>
 .aa ((0:Int)≤1)<|
 .aa (1 < (4:Int))<|
 .aa (((0:Nat)+2:Nat)≤2)<|
 let y0:ao:=(v43.take 2)
 let y1:=x.2.2
 let y2:bF:=(y0,y1.1)
 .aa (aM y2)<|
 .ite ((bf y2)==true) (
 let y3:=y1.2
 let y4:=y3.1
 .aa (cY y4)<|
 .ite ((dV y4)==true) (
 let y5:=y3.2.1
 .aa (ku y5)<|
 .ite ((oa y5)==true) (
 .aa (((0:Nat)+2:Nat)≤2)<|
 .aa (((0:Nat)+1:Nat)≤1)<|
 .ret (.inr ((y0,(0,())),(((),((),((v69.take 1),((-1),(2,0))))),true)))) (
 .ret (.inl (.BU v43 v59 v65 v68 v69 v70 v71)))) (
 .ret (.inl (.BU v43 v59 v65 v68 v69 v70 v71)))) (
 .ret (.inl (.BU v43 v59 v65 v68 v69 v70 v71)))
 | .h2 v43 v62 v63 v64 v86 v105 v106 v107 v108 v115=>
 .aa ((0:Int)≤1)<|
 .aa (1 < (3:Int))<|
 .aa (((0:Nat)+1:Nat)≤1)<|
 let y0:ao:=(v43.take 1)
 let y1:=x.2.2
 let y2:bF:=(y0,y1.1)
 .aa (aM y2)<|
 .ite ((bf y2)==true) (
 let y3:=y1.2
 let y4:=y3.1
 .aa (cY y4)<|
 .ite ((dV y4)==true) (
 let y5:=y3.2.1
 .aa (ku y5)<|
 .ite ((oa y5)==true) (
 .aa (((0:Nat)+1:Nat)≤1)<|
 .aa (((0:Nat)+1:Nat)≤1)<|
 .ret (.inr ((y0,(0,())),(((),((),((v63.take 1),((-1),(2,0))))),true)))) (
 .ret (.inl (.wU v43 v62 v63 v64 v86 v105 v106 v107 v108 v115)))) (
 .ret (.inl (.wU v43 v62 v63 v64 v86 v105 v106 v107 v108 v115)))) (
 .ret (.inl (.wU v43 v62 v63 v64 v86 v105 v106 v107 v108 v115)))
 | .h3 v43 v50=>
 .ret (.inl (.lB))
 | .h4 v43 v56 v57=>
 .aa ((0:Int)≤1)<|
 .aa (1 < (2:Int))<|
 .aa (((0:Nat)+2:Nat)≤2)<|
 let y0:ao:=(v43.take 2)
 let y1:=x.2.2
 let y2:bF:=(y0,y1.1)
 .aa (aM y2)<|
 .ite ((bf y2)==true) (
 let y3:=y1.2
 let y4:=y3.1
 .aa (dg y4)<|
 .ite ((ef y4)==true) (
 let y5:=y3.2.1
 .aa (dv y5)<|
 .ite ((eB y5)==true) (
 .aa (((0:Nat)+2:Nat)≤2)<|
 .aa (((0:Nat)+1:Nat)≤1)<|
 .ret (.inr ((y0,(0,())),(((),((),((v57.take 1),(0,(1,4))))),true)))) (
 .ret (.inl (.Af v43 v56 v57)))) (
 .ret (.inl (.Af v43 v56 v57)))) (
 .ret (.inl (.Af v43 v56 v57)))
 | .h5 v43 v47 v50=>
 .ret (.inl (.lB))
 | .h6 v43 v47 v53 v56 v57=>
 .aa ((0:Int)≤1)<|
 .aa (1 < (2:Int))<|
 .aa (((0:Nat)+2:Nat)≤2)<|
 let y0:ao:=(v43.take 2)
 let y1:=x.2.2
 let y2:bF:=(y0,y1.1)
 .aa (aM y2)<|
 .ite ((bf y2)==true) (
 let y3:=y1.2
 let y4:=y3.1
 .aa (dg y4)<|
 .ite ((ef y4)==true) (
 let y5:=y3.2.1
 .aa (C0 y5)<|
 .ite ((Ki y5)==true) (
 .aa (((0:Nat)+2:Nat)≤2)<|
 .aa (((0:Nat)+1:Nat)≤1)<|
 .ret (.inr ((y0,(0,())),(((),((),((v57.take 1),(v53,(1,0))))),true)))) (
 .ret (.inl (.BT v43 v47 v53 v56 v57)))) (
 .ret (.inl (.BT v43 v47 v53 v56 v57)))) (
 .ret (.inl (.BT v43 v47 v53 v56 v57)))
 | .h7 v43 v50=>
 .ret (.inl (.lB))
 | .h8 v43 v50=>
 .ret (.inl (.lB))
 | .h9 v43 v56 v57=>
 .aa ((0:Int)≤1)<|
 .aa (1 < (2:Int))<|
 .aa (((0:Nat)+1:Nat)≤1)<|
 let y0:ao:=(v43.take 1)
 let y1:=x.2.2
 let y2:bF:=(y0,y1.1)
 .aa (aM y2)<|
 .ite ((bf y2)==true) (
 let y3:=y1.2
 let y4:=y3.1
 .aa (ku y4)<|
 .ite ((oa y4)==true) (
 let y5:=y3.2.1
 .aa (jC y5)<|
 .ite ((mU y5)==true) (
 .aa (((0:Nat)+1:Nat)≤1)<|
 .aa (((0:Nat)+2:Nat)≤2)<|
 .ret (.inr ((y0,(243,())),(((),((),((v57.take 2),((-1),(1,0))))),true)))) (
 .ret (.inl (.BS v43 v56 v57)))) (
 .ret (.inl (.BS v43 v56 v57)))) (
 .ret (.inl (.BS v43 v56 v57)))
 | .BV v43 v50=>
 .ret (.inl (.lB))
 | .vm v43 v49 v50=>
 .ret (.inl (.lB))
 | .lC v43 v50=>
 .ret (.inl (.lB))
 | .kz v43 v56 v57=>
 .aa ((0:Int)≤1)<|
 .aa (1 < (2:Int))<|
 .aa (((0:Nat)+2:Nat)≤2)<|
 let y0:ao:=(v43.take 2)
 let y1:=x.2.2
 let y2:bF:=(y0,y1.1)
 .aa (aM y2)<|
 .ite ((bf y2)==true) (
 let y3:=y1.2
 let y4:=y3.1
 .aa (dg y4)<|
 .ite ((ef y4)==true) (
 let y5:=y3.2.1
 .aa (a8 y5)<|
 .ite ((bE y5)==true) (
 .aa (((0:Nat)+2:Nat)≤2)<|
 .aa (((0:Nat)+1:Nat)≤1)<|
 .ret (.inr ((y0,(0,())),(((),((),((v57.take 1),(4,(1,0))))),true)))) (
 .ret (.inl (.zu v43 v56 v57)))) (
 .ret (.inl (.zu v43 v56 v57)))) (
 .ret (.inl (.zu v43 v56 v57)))
 | .jM v43 v50=>
 .ret (.inl (.lB))
 | .gF v43 v50=>
 .ret (.inl (.lB))
 | .gJ v43 v50=>
 .ret (.inl (.lB))
 | .lB=>
 .ret (.inr ((([]:List Int),(0,())),(((),((),(([]:List Int),(0,(0,0))))),false)))
 | .BU v43 v59 v65 v68 v69 v70 v71=>
 .aa ((0:Int)≤2)<|
 .aa (2 < (4:Int))<|
 .aa (((0:Nat)+2:Nat)≤2)<|
 let y0:ao:=(v43.take 2)
 let y1:=x.2.2
 let y2:bF:=(y0,y1.1)
 .aa (aM y2)<|
 .ite ((bf y2)==true) (
 let y3:=y1.2
 let y4:=y3.1
 .aa (dg y4)<|
 .ite ((ef y4)==true) (
 let y5:=y3.2.1
 .aa (u0 y5)<|
 .ite ((B4 y5)==true) (
 .aa (((0:Nat)+2:Nat)≤2)<|
 .aa (((0:Nat)+1:Nat)≤1)<|
 .ret (.inr ((y0,(0,())),(((),((),((v70.take 1),(v59,(1,1))))),true)))) (
 .ret (.inl (.BR v43 v59 v65 v68 v69 v70 v71)))) (
 .ret (.inl (.BR v43 v59 v65 v68 v69 v70 v71)))) (
 .ret (.inl (.BR v43 v59 v65 v68 v69 v70 v71)))
 | .wU v43 v62 v63 v64 v86 v105 v106 v107 v108 v115=>
 .aa ((0:Int)≤2)<|
 .aa (2 < (3:Int))<|
 .aa (((0:Nat)+1:Nat)≤1)<|
 let y0:ao:=(v43.take 1)
 let y1:=x.2.2
 let y2:bF:=(y0,y1.1)
 .aa (aM y2)<|
 .ite ((bf y2)==true) (
 let y3:=y1.2
 let y4:=y3.1
 .aa (dg y4)<|
 .ite ((ef y4)==true) (
 let y5:=y3.2.1
 .aa (u0 y5)<|
 .ite ((B4 y5)==true) (
 .aa (((0:Nat)+1:Nat)≤1)<|
 .aa (((0:Nat)+1:Nat)≤1)<|
 .ret (.inr ((y0,(0,())),(((),((),((v64.take 1),(0,(1,1))))),true)))) (
 .ret (.inl (.BQ v43 v62 v63 v64 v86 v105 v106 v107 v108 v115)))) (
 .ret (.inl (.BQ v43 v62 v63 v64 v86 v105 v106 v107 v108 v115)))) (
 .ret (.inl (.BQ v43 v62 v63 v64 v86 v105 v106 v107 v108 v115)))
 | .Af v43 v56 v57=>
 .ret (.inl (.lB))
 | .BT v43 v47 v53 v56 v57=>
 .ret (.inl (.lB))
 | .BS v43 v56 v57=>
 .ret (.inl (.lB))
 | .zu v43 v56 v57=>
 .ret (.inl (.lB))
 | .BR v43 v59 v65 v68 v69 v70 v71=>
 .aa ((0:Int)≤3)<|
 .aa (3 < (4:Int))<|
 .aa (((0:Nat)+2:Nat)≤2)<|
 let y0:ao:=(v43.take 2)
 let y1:=x.2.2
 let y2:bF:=(y0,y1.1)
 .aa (aM y2)<|
 .ite ((bf y2)==true) (
 let y3:=y1.2
 let y4:=y3.1
 .aa (dg y4)<|
 .ite ((ef y4)==true) (
 let y5:=y3.2.1
 .aa (dv y5)<|
 .ite ((eB y5)==true) (
 .aa (((0:Nat)+2:Nat)≤2)<|
 .aa (((0:Nat)+1:Nat)≤1)<|
 .ret (.inr ((y0,(0,())),(((),((),((v71.take 1),(v65,(1,4))))),true)))) (
 .ret (.inl (.BP v43 v59 v65 v68 v69 v70 v71)))) (
 .ret (.inl (.BP v43 v59 v65 v68 v69 v70 v71)))) (
 .ret (.inl (.BP v43 v59 v65 v68 v69 v70 v71)))
 | .BQ v43 v62 v63 v64 v86 v105 v106 v107 v108 v115=>
 .aa ((0:Int)≤1)<|
 .aa (1 < (3:Int))<|
 .aa ((0:Int)≤0)<|
 .aa (0 < (3:Int))<|
 .aa (((0:Nat)+2:Nat)≤2)<|
 let y0:ao:=(v86.take 2)
 let y1:=x.2.2
 let y2:bF:=(y0,y1.1)
 .aa (aM y2)<|
 .ite ((bf y2)==true) (
 let y3:=y1.2
 let y4:=y3.1
 .aa (dg y4)<|
 .ite ((ef y4)==true) (
 let y5:=y3.2.1
 .aa (cY y5)<|
 .ite ((dV y5)==true) (
 .aa (((0:Nat)+2:Nat)≤2)<|
 .aa (((0:Nat)+1:Nat)≤1)<|
 .ret (.inr ((y0,(0,())),(((),((),((v105.take 1),((-1),(1,0))))),true)))) (
 .ret (.inl (.BO v86 v105 v106 v107 v43 v62 v63 v64 v108 v115)))) (
 .ret (.inl (.BO v86 v105 v106 v107 v43 v62 v63 v64 v108 v115)))) (
 .ret (.inl (.BO v86 v105 v106 v107 v43 v62 v63 v64 v108 v115)))
 | .BP v43 v59 v65 v68 v69 v70 v71=>
 .ret (.inl (.lB))
 | .BO v43 v62 v63 v64 v86 v105 v106 v107 v108 v115=>
 .aa ((0:Int)≤1)<|
 .aa (1 < (3:Int))<|
 .aa (((0:Nat)+2:Nat)≤2)<|
 let y0:ao:=(v43.take 2)
 let y1:=x.2.2
 let y2:bF:=(y0,y1.1)
 .aa (aM y2)<|
 .ite ((bf y2)==true) (
 let y3:=y1.2
 let y4:=y3.1
 .aa (cY y4)<|
 .ite ((dV y4)==true) (
 let y5:=y3.2.1
 .aa (ku y5)<|
 .ite ((oa y5)==true) (
 .aa (((0:Nat)+2:Nat)≤2)<|
 .aa (((0:Nat)+1:Nat)≤1)<|
 .ret (.inr ((y0,(0,())),(((),((),((v63.take 1),((-1),(2,0))))),true)))) (
 .ret (.inl (.BN v43 v62 v63 v64 v86 v105 v106 v107 v108 v115)))) (
 .ret (.inl (.BN v43 v62 v63 v64 v86 v105 v106 v107 v108 v115)))) (
 .ret (.inl (.BN v43 v62 v63 v64 v86 v105 v106 v107 v108 v115)))
 | .BN v43 v62 v63 v64 v86 v105 v106 v107 v108 v115=>
 .aa ((0:Int)≤2)<|
 .aa (2 < (3:Int))<|
 .aa (((0:Nat)+2:Nat)≤2)<|
 let y0:ao:=(v43.take 2)
 let y1:=x.2.2
 let y2:bF:=(y0,y1.1)
 .aa (aM y2)<|
 .ite ((bf y2)==true) (
 let y3:=y1.2
 let y4:=y3.1
 .aa (dg y4)<|
 .ite ((ef y4)==true) (
 let y5:=y3.2.1
 .aa (dv y5)<|
 .ite ((eB y5)==true) (
 .aa (((0:Nat)+2:Nat)≤2)<|
 .aa (((0:Nat)+1:Nat)≤1)<|
 .ret (.inr ((y0,(0,())),(((),((),((v64.take 1),(0,(1,4))))),true)))) (
 .ret (.inl (.BM v43 v62 v63 v64 v86 v105 v106 v107 v108 v115)))) (
 .ret (.inl (.BM v43 v62 v63 v64 v86 v105 v106 v107 v108 v115)))) (
 .ret (.inl (.BM v43 v62 v63 v64 v86 v105 v106 v107 v108 v115)))
 | .BM v43 v62 v63 v64 v86 v105 v106 v107 v108 v115=>
 .aa ((0:Int)≤2)<|
 .aa (2 < (3:Int))<|
 .aa ((0:Int)≤0)<|
 .aa (0 < (1:Int))<|
 .aa (((0:Nat)+1:Nat)≤1)<|
 let y0:ao:=(v108.take 1)
 let y1:=x.2.2
 let y2:bF:=(y0,y1.1)
 .aa (aM y2)<|
 .ite ((bf y2)==true) (
 let y3:=y1.2
 let y4:=y3.1
 .aa (cY y4)<|
 .ite ((dV y4)==true) (
 let y5:=y3.2.1
 .aa (ni y5)<|
 .ite ((vu y5)==true) (
 .aa (((0:Nat)+1:Nat)≤1)<|
 .aa (((0:Nat)+1:Nat)≤1)<|
 .ret (.inr ((y0,(0,())),(((),((),((v115.take 1),(0,(3,8))))),true)))) (
 .ret (.inl (.BL v108 v115 v86 v105 v106 v107 v43 v62 v63 v64)))) (
 .ret (.inl (.BL v108 v115 v86 v105 v106 v107 v43 v62 v63 v64)))) (
 .ret (.inl (.BL v108 v115 v86 v105 v106 v107 v43 v62 v63 v64)))
 | .BL v43 v50 v72 v91 v92 v93 v94 v113 v114 v115=>
 .ret (.inl (.lB))
noncomputable def b6 (x:DI):aZ:=.cell true 25 (.agg [1,1,1,8,8,1,1] [(.int .u8 x.1),(.int .u8 x.2.1),(.int .i64 x.2.2.1),(.agg [1,1,1,1,1,1,1,1] [(.int .u8 x.2.2.2.1.1),(.int .i64 x.2.2.2.1.2.1),(.int .i64 x.2.2.2.1.2.2.1),(.int .i64 x.2.2.2.1.2.2.2.1),(.int .i64 x.2.2.2.1.2.2.2.2.1),(.int .i64 x.2.2.2.1.2.2.2.2.2.1),(.bool x.2.2.2.1.2.2.2.2.2.2.1),(.int .i64 x.2.2.2.1.2.2.2.2.2.2.2)]),(.agg [1,1,1,1,1,1,1,1] [(.int .u8 x.2.2.2.2.1.1),(.int .i64 x.2.2.2.2.1.2.1),(.int .i64 x.2.2.2.2.1.2.2.1),(.int .i64 x.2.2.2.2.1.2.2.2.1),(.int .i64 x.2.2.2.2.1.2.2.2.2.1),(.int .i64 x.2.2.2.2.1.2.2.2.2.2.1),(.bool x.2.2.2.2.1.2.2.2.2.2.2.1),(.int .i64 x.2.2.2.2.1.2.2.2.2.2.2.2)]),(.int .u8 x.2.2.2.2.2.1),(.int .i64 x.2.2.2.2.2.2)])
noncomputable def z3:aZ:=.cell true 80 (.agg [6,6,6] [(.agg [1,1,1,1,1,1] [(.fn 116 []),(.fn 117 []),(.bt 10 [] 1 0 1 (some 1)),(.int .i64 (-1)),(.int .i64 1),(.int .i64 0)]),(.agg [1,1,1,1,1,1] [(.fn 117 []),(.fn 118 []),(.bt 11 [] 1 0 1 (some 1)),(.int .i64 (-1)),(.int .i64 2),(.int .i64 0)]),(.agg [1,1,1,1,1,1] [(.fn 116 []),(.fn 119 []),(.bt 12 [] 1 0 1 (some 1)),(.int .i64 0),(.int .i64 1),(.int .i64 1)])])
noncomputable def zZ:aZ:=.cell true 80 (.agg [6,6,6] [(.agg [1,1,1,1,1,1] [(.fn 116 []),(.fn 117 []),(.bt 16 [] 1 0 1 (some 1)),(.int .i64 (-1)),(.int .i64 1),(.int .i64 0)]),(.agg [1,1,1,1,1,1] [(.fn 117 []),(.fn 118 []),(.bt 17 [] 1 0 1 (some 1)),(.int .i64 (-1)),(.int .i64 2),(.int .i64 0)]),(.agg [1,1,1,1,1,1] [(.fn 116 []),(.fn 120 []),(.bt 18 [] 1 0 1 (some 1)),(.int .i64 0),(.int .i64 1),(.int .i64 4)])])
noncomputable def zY:aZ:=.cell true 80 (.agg [6,6,6] [(.agg [1,1,1,1,1,1] [(.fn 116 []),(.fn 117 []),(.bt 10 [] 1 0 1 (some 1)),(.int .i64 (-1)),(.int .i64 1),(.int .i64 0)]),(.agg [1,1,1,1,1,1] [(.fn 117 []),(.fn 118 []),(.bt 11 [] 1 0 1 (some 1)),(.int .i64 (-1)),(.int .i64 2),(.int .i64 0)]),(.agg [1,1,1,1,1,1] [(.fn 116 []),(.fn 120 []),(.bt 12 [] 1 0 1 (some 1)),(.int .i64 0),(.int .i64 1),(.int .i64 4)])])
noncomputable def zX:aZ:=.cell true 80 (.agg [6,6,6] [(.agg [1,1,1,1,1,1] [(.fn 116 []),(.fn 117 []),(.bt 16 [] 1 0 1 (some 1)),(.int .i64 (-1)),(.int .i64 1),(.int .i64 0)]),(.agg [1,1,1,1,1,1] [(.fn 117 []),(.fn 118 []),(.bt 17 [] 1 0 1 (some 1)),(.int .i64 (-1)),(.int .i64 2),(.int .i64 0)]),(.agg [1,1,1,1,1,1] [(.fn 116 []),(.fn 119 []),(.bt 18 [] 1 0 1 (some 1)),(.int .i64 0),(.int .i64 1),(.int .i64 1)])])
noncomputable def zW:aZ:=.cell true 76 (.agg [3,3,3] [(.agg [1,1,1] [(.bt 8 [] 1 0 1 (some 1)),(.int .u8 0),(.bt 9 [] 6 0 3 (some 3))]),(.agg [1,1,1] [(.bt 14 [] 1 0 2 (some 2)),(.int .u8 0),(.bt 15 [] 6 0 3 (some 3))]),(.agg [1,1,1] [(.bt 19 [] 1 0 1 (some 1)),(.int .u8 0),(.bt 20 [] 6 0 1 (some 1))])])
noncomputable def zV:aZ:=.cell true 76 (.agg [3,3,3] [(.agg [1,1,1] [(.bt 14 [] 1 0 1 (some 1)),(.int .u8 0),(.bt 15 [] 6 0 3 (some 3))]),(.agg [1,1,1] [(.bt 8 [] 1 0 2 (some 2)),(.int .u8 0),(.bt 9 [] 6 0 3 (some 3))]),(.agg [1,1,1] [(.bt 19 [] 1 0 1 (some 1)),(.int .u8 0),(.bt 20 [] 6 0 1 (some 1))])])
noncomputable def F2:aZ:=.cell true 80 (.agg [6,6] [(.agg [1,1,1,1,1,1] [(.fn 123 []),(.fn 124 []),(.bt 10 [] 1 0 2 (some 2)),(.int .i64 (-1)),(.int .i64 2),(.int .i64 0)]),(.agg [1,1,1,1,1,1] [(.fn 118 []),(.fn 123 []),(.bt 11 [] 1 0 2 (some 2)),(.int .i64 (-1)),(.int .i64 1),(.int .i64 0)])])
noncomputable def F1:aZ:=.cell true 80 (.agg [6,6] [(.agg [1,1,1,1,1,1] [(.fn 116 []),(.fn 117 []),(.bt 10 [] 1 0 1 (some 1)),(.int .i64 (-1)),(.int .i64 1),(.int .i64 0)]),(.agg [1,1,1,1,1,1] [(.fn 116 []),(.fn 120 []),(.bt 11 [] 1 0 1 (some 1)),(.int .i64 0),(.int .i64 1),(.int .i64 4)])])
noncomputable def F0:aZ:=.cell true 80 (.agg [6,6] [(.agg [1,1,1,1,1,1] [(.fn 141 []),(.fn 120 []),(.bt 10 [] 1 0 1 (some 1)),(.int .i64 0),(.int .i64 0),(.int .i64 4)]),(.agg [1,1,1,1,1,1] [(.fn 116 []),(.fn 141 []),(.bt 11 [] 1 0 1 (some 1)),(.int .i64 4),(.int .i64 1),(.int .i64 0)])])
noncomputable def j6:aZ:=.cell true 80 (.agg [6] [(.agg [1,1,1,1,1,1] [(.fn 117 []),(.fn 156 []),(.bt 21 [] 1 0 1 (some 1)),(.int .i64 0),(.int .i64 3),(.int .i64 8)])])
noncomputable def bP:aZ:=.cell true 80 (.agg [1,1,1,1,1,1] [(.raw .nilFunc),(.raw .nilFunc),(.raw (.slice none 0 0)),(.int .i64 0),(.int .i64 0),(.int .i64 0)])
noncomputable def ow:aZ:=.cell true 76 (.agg [3] [(.agg [1,1,1] [(.bt 8 [] 1 0 2 (some 2)),(.int .u8 0),(.bt 9 [] 6 0 4 (some 4))])])
noncomputable def jb:aZ:=.cell true 76 (.agg [3] [(.agg [1,1,1] [(.bt 8 [] 1 0 2 (some 2)),(.int .u8 0),(.bt 9 [] 6 0 1 (some 1))])])
noncomputable def j5:aZ:=.cell true 76 (.agg [3] [(.agg [1,1,1] [(.bt 8 [] 1 0 2 (some 2)),(.int .u8 0),(.bt 9 [] 6 0 2 (some 2))])])
noncomputable def ou:aZ:=.cell true 76 (.agg [1,1,1] [(.bt 8 [] 1 0 2 (some 2)),(.int .u8 0),(.bt 9 [] 6 0 4 (some 4))])
noncomputable def vE:aZ:=.cell true 76 (.agg [1,1,1] [(.bt 8 [] 1 0 1 (some 1)),(.int .u8 0),(.bt 9 [] 6 0 3 (some 3))])
noncomputable def ja:aZ:=.cell true 76 (.agg [1,1,1] [(.bt 8 [] 1 0 2 (some 2)),(.int .u8 0),(.bt 9 [] 6 0 1 (some 1))])
noncomputable def j4:aZ:=.cell true 76 (.agg [1,1,1] [(.bt 8 [] 1 0 2 (some 2)),(.int .u8 0),(.bt 9 [] 6 0 2 (some 2))])
noncomputable def vD:aZ:=.cell true 76 (.agg [1,1,1] [(.bt 8 [] 1 0 2 (some 2)),(.int .u8 0),(.bt 9 [] 6 0 3 (some 3))])
noncomputable def bO:aZ:=.cell true 76 (.agg [1,1,1] [(.raw (.slice none 0 0)),(.int .u8 0),(.raw (.slice none 0 0))])
noncomputable def ay (x:DI):Ql→Head
 | .h0=>
 {fr:={id:=29,kind:=.top,T:=[.any,(.ptr 0 []),(.ptr 1 []),(.ptr 2 []),(.ptr 3 [])]++List.replicate 48 .any,items:=[.code (az [1,1,1,0,0] (ag Tryz.f29)),.code (az [1,1,1,0,1] (ag Tryz.f29)),.code (az [1,1,1,1] (ag Tryz.f29))],D:=[],base:=0},
  bn:=[],
  H:=[(b6 x),bO,bP,.cell true 4 (.bool false)]}
 | .h1 v43 v59 v65 v68 v69 v70 v71=>
 {fr:={id:=102,kind:=(.iter 6),T:=[(.gM 6),(.ptr 4 []),.any,.any,(.ptr 7 [])]++List.replicate 7 .any++[(.bt 14 [] 3 0 1 (some 1)),(.int .i64 1),(.int .i64 0)]++List.replicate 4 .any++[(.bt 9 [] 6 0 4 (some 4)),(.int .i64 4),(.int .i64 0)]++List.replicate 31 .any,items:=[.code (az [1,0,0,1,1,0,0,1,1,0,0,1,1,1] (ag Tryz.f102)),.lp (az [1,0,0,1,1,0,0,1,1,0,0] (ag Tryz.f102)),.a6 2,.a6 1,.code (az [1,0,0,1,1,1] (ag Tryz.f102)),.lp (az [1,0,0] (ag Tryz.f102)),.a6 0],D:=[],base:=7},
  bn:=[{id:=29,kind:=.top,T:=[.any,.any,(.ptr 1 []),(.ptr 2 []),(.ptr 3 [])]++List.replicate 48 .any,items:=[.fin 6,.a6 0,.code (az [1,1,1,1] (ag Tryz.f29))],D:=[5],base:=0}],
  H:=[.dead,bO,bP,.cell true 4 (.bool false),(b6 x),.j1,.loop .ready none 29 ([.any,.any,(.ptr 1 []),(.ptr 2 []),(.ptr 3 [])]++List.replicate 48 .any) [47,48] (az [1,1,1,0,1,0,0] (ag Tryz.f29)) (az [1,1,1,0,1,0,1] (ag Tryz.f29)) 5,ou,.cell true 3 (.arr 2 (.int .i64) v43),.cell true 80 (.agg [6,6,6,6] [(.agg [1,1,1,1,1,1] [(.fn 116 []),(.fn 117 []),(.bt 10 [] 1 0 1 (some 1)),(.int .i64 (-1)),(.int .i64 1),(.int .i64 0)]),(.agg [1,1,1,1,1,1] [(.fn 117 []),(.fn 118 []),(.bt 11 [] 1 0 1 (some 1)),(.int .i64 (-1)),(.int .i64 2),(.int .i64 0)]),(.agg [1,1,1,1,1,1] [(.fn 116 []),(.fn 119 []),(.bt 12 [] 1 0 1 (some 1)),(.int .i64 v59),(.int .i64 1),(.int .i64 1)]),(.agg [1,1,1,1,1,1] [(.fn 116 []),(.fn 120 []),(.bt 13 [] 1 0 1 (some 1)),(.int .i64 v65),(.int .i64 1),(.int .i64 4)])]),.cell true 5 (.arr 1 (.int .u8) v68),.cell true 5 (.arr 1 (.int .u8) v69),.cell true 5 (.arr 1 (.int .u8) v70),.cell true 5 (.arr 1 (.int .u8) v71),ow]}
 | .h2 v43 v62 v63 v64 v86 v105 v106 v107 v108 v115=>
 {fr:={id:=102,kind:=(.iter 6),T:=[(.gM 6),(.ptr 4 []),.any,.any,(.ptr 7 [])]++List.replicate 7 .any++[(.bt 13 [] 3 0 3 (some 3)),(.int .i64 3),(.int .i64 0)]++List.replicate 4 .any++[(.bt 9 [] 6 0 3 (some 3)),(.int .i64 3),(.int .i64 0)]++List.replicate 31 .any,items:=[.code (az [1,0,0,1,1,0,0,1,1,0,0,1,1,1] (ag Tryz.f102)),.lp (az [1,0,0,1,1,0,0,1,1,0,0] (ag Tryz.f102)),.a6 2,.a6 1,.code (az [1,0,0,1,1,1] (ag Tryz.f102)),.lp (az [1,0,0] (ag Tryz.f102)),.a6 0],D:=[],base:=7},
  bn:=[{id:=29,kind:=.top,T:=[.any,.any,(.ptr 1 []),(.ptr 2 []),(.ptr 3 [])]++List.replicate 48 .any,items:=[.fin 6,.a6 0,.code (az [1,1,1,1] (ag Tryz.f29))],D:=[5],base:=0}],
  H:=[.dead,bO,bP,.cell true 4 (.bool false),(b6 x),.j1,.loop .ready none 29 ([.any,.any,(.ptr 1 []),(.ptr 2 []),(.ptr 3 [])]++List.replicate 48 .any) [47,48] (az [1,1,1,0,1,0,0] (ag Tryz.f29)) (az [1,1,1,0,1,0,1] (ag Tryz.f29)) 5,vE,.cell true 3 (.arr 1 (.int .i64) v43),z3,.cell true 5 (.arr 1 (.int .u8) v62),.cell true 5 (.arr 1 (.int .u8) v63),.cell true 5 (.arr 1 (.int .u8) v64),zW,.cell true 3 (.arr 2 (.int .i64) v86),zZ,.cell true 5 (.arr 1 (.int .u8) v105),.cell true 5 (.arr 1 (.int .u8) v106),.cell true 5 (.arr 1 (.int .u8) v107),.cell true 3 (.arr 1 (.int .i64) v108),j6,.cell true 5 (.arr 1 (.int .u8) v115)]}
 | .h3 v43 v50=>
 {fr:={id:=102,kind:=(.iter 6),T:=[(.gM 6),(.ptr 4 []),.any,.any,(.ptr 7 [])]++List.replicate 7 .any++[(.bt 11 [] 3 0 1 (some 1)),(.int .i64 1),(.int .i64 0)]++List.replicate 4 .any++[(.bt 9 [] 6 0 1 (some 1)),(.int .i64 1),(.int .i64 0)]++List.replicate 31 .any,items:=[.code (az [1,0,0,1,1,0,0,1,1,0,0,1,1,1] (ag Tryz.f102)),.lp (az [1,0,0,1,1,0,0,1,1,0,0] (ag Tryz.f102)),.a6 2,.a6 1,.code (az [1,0,0,1,1,1] (ag Tryz.f102)),.lp (az [1,0,0] (ag Tryz.f102)),.a6 0],D:=[],base:=7},
  bn:=[{id:=29,kind:=.top,T:=[.any,.any,(.ptr 1 []),(.ptr 2 []),(.ptr 3 [])]++List.replicate 48 .any,items:=[.fin 6,.a6 0,.code (az [1,1,1,1] (ag Tryz.f29))],D:=[5],base:=0}],
  H:=[.dead,bO,bP,.cell true 4 (.bool false),(b6 x),.j1,.loop .ready none 29 ([.any,.any,(.ptr 1 []),(.ptr 2 []),(.ptr 3 [])]++List.replicate 48 .any) [47,48] (az [1,1,1,0,1,0,0] (ag Tryz.f29)) (az [1,1,1,0,1,0,1] (ag Tryz.f29)) 5,ja,.cell true 3 (.arr 2 (.int .i64) v43),.cell true 80 (.agg [6] [(.agg [1,1,1,1,1,1] [(.fn 117 []),(.fn 118 []),(.bt 10 [] 1 0 1 (some 1)),(.int .i64 (-1)),(.int .i64 2),(.int .i64 0)])]),.cell true 5 (.arr 1 (.int .u8) v50),jb]}
 | .h4 v43 v56 v57=>
 {fr:={id:=102,kind:=(.iter 6),T:=[(.gM 6),(.ptr 4 []),.any,.any,(.ptr 7 [])]++List.replicate 7 .any++[(.bt 12 [] 3 0 1 (some 1)),(.int .i64 1),(.int .i64 0)]++List.replicate 4 .any++[(.bt 9 [] 6 0 2 (some 2)),(.int .i64 2),(.int .i64 0)]++List.replicate 31 .any,items:=[.code (az [1,0,0,1,1,0,0,1,1,0,0,1,1,1] (ag Tryz.f102)),.lp (az [1,0,0,1,1,0,0,1,1,0,0] (ag Tryz.f102)),.a6 2,.a6 1,.code (az [1,0,0,1,1,1] (ag Tryz.f102)),.lp (az [1,0,0] (ag Tryz.f102)),.a6 0],D:=[],base:=7},
  bn:=[{id:=29,kind:=.top,T:=[.any,.any,(.ptr 1 []),(.ptr 2 []),(.ptr 3 [])]++List.replicate 48 .any,items:=[.fin 6,.a6 0,.code (az [1,1,1,1] (ag Tryz.f29))],D:=[5],base:=0}],
  H:=[.dead,bO,bP,.cell true 4 (.bool false),(b6 x),.j1,.loop .ready none 29 ([.any,.any,(.ptr 1 []),(.ptr 2 []),(.ptr 3 [])]++List.replicate 48 .any) [47,48] (az [1,1,1,0,1,0,0] (ag Tryz.f29)) (az [1,1,1,0,1,0,1] (ag Tryz.f29)) 5,j4,.cell true 3 (.arr 2 (.int .i64) v43),F1,.cell true 5 (.arr 1 (.int .u8) v56),.cell true 5 (.arr 1 (.int .u8) v57),j5]}
 | .h5 v43 v47 v50=>
 {fr:={id:=102,kind:=(.iter 6),T:=[(.gM 6),(.ptr 4 []),.any,.any,(.ptr 7 [])]++List.replicate 7 .any++[(.bt 11 [] 3 0 1 (some 1)),(.int .i64 1),(.int .i64 0)]++List.replicate 4 .any++[(.bt 9 [] 6 0 1 (some 1)),(.int .i64 1),(.int .i64 0)]++List.replicate 31 .any,items:=[.code (az [1,0,0,1,1,0,0,1,1,0,0,1,1,1] (ag Tryz.f102)),.lp (az [1,0,0,1,1,0,0,1,1,0,0] (ag Tryz.f102)),.a6 2,.a6 1,.code (az [1,0,0,1,1,1] (ag Tryz.f102)),.lp (az [1,0,0] (ag Tryz.f102)),.a6 0],D:=[],base:=7},
  bn:=[{id:=29,kind:=.top,T:=[.any,.any,(.ptr 1 []),(.ptr 2 []),(.ptr 3 [])]++List.replicate 48 .any,items:=[.fin 6,.a6 0,.code (az [1,1,1,1] (ag Tryz.f29))],D:=[5],base:=0}],
  H:=[.dead,bO,bP,.cell true 4 (.bool false),(b6 x),.j1,.loop .ready none 29 ([.any,.any,(.ptr 1 []),(.ptr 2 []),(.ptr 3 [])]++List.replicate 48 .any) [47,48] (az [1,1,1,0,1,0,0] (ag Tryz.f29)) (az [1,1,1,0,1,0,1] (ag Tryz.f29)) 5,ja,.cell true 3 (.arr 2 (.int .i64) v43),.cell true 80 (.agg [6] [(.agg [1,1,1,1,1,1] [(.fn 116 []),(.fn 141 []),(.bt 10 [] 1 0 1 (some 1)),(.int .i64 v47),(.int .i64 1),(.int .i64 0)])]),.cell true 5 (.arr 1 (.int .u8) v50),jb]}
 | .h6 v43 v47 v53 v56 v57=>
 {fr:={id:=102,kind:=(.iter 6),T:=[(.gM 6),(.ptr 4 []),.any,.any,(.ptr 7 [])]++List.replicate 7 .any++[(.bt 12 [] 3 0 1 (some 1)),(.int .i64 1),(.int .i64 0)]++List.replicate 4 .any++[(.bt 9 [] 6 0 2 (some 2)),(.int .i64 2),(.int .i64 0)]++List.replicate 31 .any,items:=[.code (az [1,0,0,1,1,0,0,1,1,0,0,1,1,1] (ag Tryz.f102)),.lp (az [1,0,0,1,1,0,0,1,1,0,0] (ag Tryz.f102)),.a6 2,.a6 1,.code (az [1,0,0,1,1,1] (ag Tryz.f102)),.lp (az [1,0,0] (ag Tryz.f102)),.a6 0],D:=[],base:=7},
  bn:=[{id:=29,kind:=.top,T:=[.any,.any,(.ptr 1 []),(.ptr 2 []),(.ptr 3 [])]++List.replicate 48 .any,items:=[.fin 6,.a6 0,.code (az [1,1,1,1] (ag Tryz.f29))],D:=[5],base:=0}],
  H:=[.dead,bO,bP,.cell true 4 (.bool false),(b6 x),.j1,.loop .ready none 29 ([.any,.any,(.ptr 1 []),(.ptr 2 []),(.ptr 3 [])]++List.replicate 48 .any) [47,48] (az [1,1,1,0,1,0,0] (ag Tryz.f29)) (az [1,1,1,0,1,0,1] (ag Tryz.f29)) 5,j4,.cell true 3 (.arr 2 (.int .i64) v43),.cell true 80 (.agg [6,6] [(.agg [1,1,1,1,1,1] [(.fn 116 []),(.fn 126 []),(.bt 10 [] 1 0 1 (some 1)),(.int .i64 v47),(.int .i64 1),(.int .i64 1)]),(.agg [1,1,1,1,1,1] [(.fn 116 []),(.fn 127 []),(.bt 11 [] 1 0 1 (some 1)),(.int .i64 v53),(.int .i64 1),(.int .i64 0)])]),.cell true 5 (.arr 1 (.int .u8) v56),.cell true 5 (.arr 1 (.int .u8) v57),j5]}
 | .h7 v43 v50=>
 {fr:={id:=102,kind:=(.iter 6),T:=[(.gM 6),(.ptr 4 []),.any,.any,(.ptr 7 [])]++List.replicate 7 .any++[(.bt 11 [] 3 0 1 (some 1)),(.int .i64 1),(.int .i64 0)]++List.replicate 4 .any++[(.bt 9 [] 6 0 1 (some 1)),(.int .i64 1),(.int .i64 0)]++List.replicate 31 .any,items:=[.code (az [1,0,0,1,1,0,0,1,1,0,0,1,1,1] (ag Tryz.f102)),.lp (az [1,0,0,1,1,0,0,1,1,0,0] (ag Tryz.f102)),.a6 2,.a6 1,.code (az [1,0,0,1,1,1] (ag Tryz.f102)),.lp (az [1,0,0] (ag Tryz.f102)),.a6 0],D:=[],base:=7},
  bn:=[{id:=29,kind:=.top,T:=[.any,.any,(.ptr 1 []),(.ptr 2 []),(.ptr 3 [])]++List.replicate 48 .any,items:=[.fin 6,.a6 0,.code (az [1,1,1,1] (ag Tryz.f29))],D:=[5],base:=0}],
  H:=[.dead,bO,bP,.cell true 4 (.bool false),(b6 x),.j1,.loop .ready none 29 ([.any,.any,(.ptr 1 []),(.ptr 2 []),(.ptr 3 [])]++List.replicate 48 .any) [47,48] (az [1,1,1,0,1,0,0] (ag Tryz.f29)) (az [1,1,1,0,1,0,1] (ag Tryz.f29)) 5,ja,.cell true 3 (.arr 2 (.int .i64) v43),.cell true 80 (.agg [6] [(.agg [1,1,1,1,1,1] [(.fn 117 []),(.fn 116 []),(.bt 10 [] 1 0 2 (some 2)),(.int .i64 (-1)),(.int .i64 2),(.int .i64 0)])]),.cell true 5 (.arr 2 (.int .u8) v50),jb]}
 | .h8 v43 v50=>
 {fr:={id:=102,kind:=(.iter 6),T:=[(.gM 6),(.ptr 4 []),.any,.any,(.ptr 7 [])]++List.replicate 7 .any++[(.bt 11 [] 3 0 1 (some 1)),(.int .i64 1),(.int .i64 0)]++List.replicate 4 .any++[(.bt 9 [] 6 0 1 (some 1)),(.int .i64 1),(.int .i64 0)]++List.replicate 31 .any,items:=[.code (az [1,0,0,1,1,0,0,1,1,0,0,1,1,1] (ag Tryz.f102)),.lp (az [1,0,0,1,1,0,0,1,1,0,0] (ag Tryz.f102)),.a6 2,.a6 1,.code (az [1,0,0,1,1,1] (ag Tryz.f102)),.lp (az [1,0,0] (ag Tryz.f102)),.a6 0],D:=[],base:=7},
  bn:=[{id:=29,kind:=.top,T:=[.any,.any,(.ptr 1 []),(.ptr 2 []),(.ptr 3 [])]++List.replicate 48 .any,items:=[.fin 6,.a6 0,.code (az [1,1,1,1] (ag Tryz.f29))],D:=[5],base:=0}],
  H:=[.dead,bO,bP,.cell true 4 (.bool false),(b6 x),.j1,.loop .ready none 29 ([.any,.any,(.ptr 1 []),(.ptr 2 []),(.ptr 3 [])]++List.replicate 48 .any) [47,48] (az [1,1,1,0,1,0,0] (ag Tryz.f29)) (az [1,1,1,0,1,0,1] (ag Tryz.f29)) 5,.cell true 76 (.agg [1,1,1] [(.bt 8 [] 1 0 1 (some 1)),(.int .u8 0),(.bt 9 [] 6 0 1 (some 1))]),.cell true 3 (.arr 1 (.int .i64) v43),.cell true 80 (.agg [6] [(.agg [1,1,1,1,1,1] [(.fn 116 []),(.fn 141 []),(.bt 10 [] 1 0 2 (some 2)),(.int .i64 0),(.int .i64 1),(.int .i64 0)])]),.cell true 5 (.arr 2 (.int .u8) v50),.cell true 76 (.agg [3] [(.agg [1,1,1] [(.bt 8 [] 1 0 1 (some 1)),(.int .u8 0),(.bt 9 [] 6 0 1 (some 1))])])]}
 | .h9 v43 v56 v57=>
 {fr:={id:=102,kind:=(.iter 6),T:=[(.gM 6),(.ptr 4 []),.any,.any,(.ptr 7 [])]++List.replicate 7 .any++[(.bt 12 [] 3 0 1 (some 1)),(.int .i64 1),(.int .i64 0)]++List.replicate 4 .any++[(.bt 9 [] 6 0 2 (some 2)),(.int .i64 2),(.int .i64 0)]++List.replicate 31 .any,items:=[.code (az [1,0,0,1,1,0,0,1,1,0,0,1,1,1] (ag Tryz.f102)),.lp (az [1,0,0,1,1,0,0,1,1,0,0] (ag Tryz.f102)),.a6 2,.a6 1,.code (az [1,0,0,1,1,1] (ag Tryz.f102)),.lp (az [1,0,0] (ag Tryz.f102)),.a6 0],D:=[],base:=7},
  bn:=[{id:=29,kind:=.top,T:=[.any,.any,(.ptr 1 []),(.ptr 2 []),(.ptr 3 [])]++List.replicate 48 .any,items:=[.fin 6,.a6 0,.code (az [1,1,1,1] (ag Tryz.f29))],D:=[5],base:=0}],
  H:=[.dead,bO,bP,.cell true 4 (.bool false),(b6 x),.j1,.loop .ready none 29 ([.any,.any,(.ptr 1 []),(.ptr 2 []),(.ptr 3 [])]++List.replicate 48 .any) [47,48] (az [1,1,1,0,1,0,0] (ag Tryz.f29)) (az [1,1,1,0,1,0,1] (ag Tryz.f29)) 5,.cell true 76 (.agg [1,1,1] [(.bt 8 [] 1 0 1 (some 1)),(.int .u8 243),(.bt 9 [] 6 0 2 (some 2))]),.cell true 3 (.arr 1 (.int .i64) v43),F2,.cell true 5 (.arr 2 (.int .u8) v56),.cell true 5 (.arr 2 (.int .u8) v57),.cell true 76 (.agg [3] [(.agg [1,1,1] [(.bt 8 [] 1 0 1 (some 1)),(.int .u8 243),(.bt 9 [] 6 0 2 (some 2))])])]}
 | .BV v43 v50=>
 {fr:={id:=102,kind:=(.iter 6),T:=[(.gM 6),(.ptr 4 []),.any,.any,(.ptr 7 [])]++List.replicate 7 .any++[(.bt 11 [] 3 0 1 (some 1)),(.int .i64 1),(.int .i64 0)]++List.replicate 4 .any++[(.bt 9 [] 6 0 1 (some 1)),(.int .i64 1),(.int .i64 0)]++List.replicate 31 .any,items:=[.code (az [1,0,0,1,1,0,0,1,1,0,0,1,1,1] (ag Tryz.f102)),.lp (az [1,0,0,1,1,0,0,1,1,0,0] (ag Tryz.f102)),.a6 2,.a6 1,.code (az [1,0,0,1,1,1] (ag Tryz.f102)),.lp (az [1,0,0] (ag Tryz.f102)),.a6 0],D:=[],base:=7},
  bn:=[{id:=29,kind:=.top,T:=[.any,.any,(.ptr 1 []),(.ptr 2 []),(.ptr 3 [])]++List.replicate 48 .any,items:=[.fin 6,.a6 0,.code (az [1,1,1,1] (ag Tryz.f29))],D:=[5],base:=0}],
  H:=[.dead,bO,bP,.cell true 4 (.bool false),(b6 x),.j1,.loop .ready none 29 ([.any,.any,(.ptr 1 []),(.ptr 2 []),(.ptr 3 [])]++List.replicate 48 .any) [47,48] (az [1,1,1,0,1,0,0] (ag Tryz.f29)) (az [1,1,1,0,1,0,1] (ag Tryz.f29)) 5,.cell true 76 (.agg [1,1,1] [(.bt 8 [] 1 0 1 (some 1)),(.int .u8 102),(.bt 9 [] 6 0 1 (some 1))]),.cell true 3 (.arr 1 (.int .i64) v43),.cell true 80 (.agg [6] [(.agg [1,1,1,1,1,1] [(.fn 123 []),(.fn 124 []),(.bt 10 [] 1 0 2 (some 2)),(.int .i64 (-1)),(.int .i64 2),(.int .i64 0)])]),.cell true 5 (.arr 2 (.int .u8) v50),.cell true 76 (.agg [3] [(.agg [1,1,1] [(.bt 8 [] 1 0 1 (some 1)),(.int .u8 102),(.bt 9 [] 6 0 1 (some 1))])])]}
 | .vm v43 v49 v50=>
 {fr:={id:=102,kind:=(.iter 6),T:=[(.gM 6),(.ptr 4 []),.any,.any,(.ptr 7 [])]++List.replicate 7 .any++[(.bt 11 [] 3 0 1 (some 1)),(.int .i64 1),(.int .i64 0)]++List.replicate 4 .any++[(.bt 9 [] 6 0 1 (some 1)),(.int .i64 1),(.int .i64 0)]++List.replicate 31 .any,items:=[.code (az [1,0,0,1,1,0,0,1,1,0,0,1,1,1] (ag Tryz.f102)),.lp (az [1,0,0,1,1,0,0,1,1,0,0] (ag Tryz.f102)),.a6 2,.a6 1,.code (az [1,0,0,1,1,1] (ag Tryz.f102)),.lp (az [1,0,0] (ag Tryz.f102)),.a6 0],D:=[],base:=7},
  bn:=[{id:=29,kind:=.top,T:=[.any,.any,(.ptr 1 []),(.ptr 2 []),(.ptr 3 [])]++List.replicate 48 .any,items:=[.fin 6,.a6 0,.code (az [1,1,1,1] (ag Tryz.f29))],D:=[5],base:=0}],
  H:=[.dead,bO,bP,.cell true 4 (.bool false),(b6 x),.j1,.loop .ready none 29 ([.any,.any,(.ptr 1 []),(.ptr 2 []),(.ptr 3 [])]++List.replicate 48 .any) [47,48] (az [1,1,1,0,1,0,0] (ag Tryz.f29)) (az [1,1,1,0,1,0,1] (ag Tryz.f29)) 5,.cell true 76 (.agg [1,1,1] [(.bt 8 [] 1 0 1 (some 1)),(.int .u8 102),(.bt 9 [] 6 0 1 (some 1))]),.cell true 3 (.arr 1 (.int .i64) v43),.cell true 80 (.agg [6] [(.agg [1,1,1,1,1,1] [(.fn 123 []),(.fn 124 []),(.bt 10 [] 1 0 3 (some 3)),(.int .i64 (-1)),(.int .i64 2),(.int .i64 v49)])]),.cell true 5 (.arr 3 (.int .u8) v50),.cell true 76 (.agg [3] [(.agg [1,1,1] [(.bt 8 [] 1 0 1 (some 1)),(.int .u8 102),(.bt 9 [] 6 0 1 (some 1))])])]}
 | .lC v43 v50=>
 {fr:={id:=102,kind:=(.iter 6),T:=[(.gM 6),(.ptr 4 []),.any,.any,(.ptr 7 [])]++List.replicate 7 .any++[(.bt 11 [] 3 0 1 (some 1)),(.int .i64 1),(.int .i64 0)]++List.replicate 4 .any++[(.bt 9 [] 6 0 1 (some 1)),(.int .i64 1),(.int .i64 0)]++List.replicate 31 .any,items:=[.code (az [1,0,0,1,1,0,0,1,1,0,0,1,1,1] (ag Tryz.f102)),.lp (az [1,0,0,1,1,0,0,1,1,0,0] (ag Tryz.f102)),.a6 2,.a6 1,.code (az [1,0,0,1,1,1] (ag Tryz.f102)),.lp (az [1,0,0] (ag Tryz.f102)),.a6 0],D:=[],base:=7},
  bn:=[{id:=29,kind:=.top,T:=[.any,.any,(.ptr 1 []),(.ptr 2 []),(.ptr 3 [])]++List.replicate 48 .any,items:=[.fin 6,.a6 0,.code (az [1,1,1,1] (ag Tryz.f29))],D:=[5],base:=0}],
  H:=[.dead,bO,bP,.cell true 4 (.bool false),(b6 x),.j1,.loop .ready none 29 ([.any,.any,(.ptr 1 []),(.ptr 2 []),(.ptr 3 [])]++List.replicate 48 .any) [47,48] (az [1,1,1,0,1,0,0] (ag Tryz.f29)) (az [1,1,1,0,1,0,1] (ag Tryz.f29)) 5,ja,.cell true 3 (.arr 2 (.int .i64) v43),.cell true 80 (.agg [6] [(.agg [1,1,1,1,1,1] [(.fn 141 []),(.fn 120 []),(.bt 10 [] 1 0 1 (some 1)),(.int .i64 0),(.int .i64 0),(.int .i64 4)])]),.cell true 5 (.arr 1 (.int .u8) v50),jb]}
 | .kz v43 v56 v57=>
 {fr:={id:=102,kind:=(.iter 6),T:=[(.gM 6),(.ptr 4 []),.any,.any,(.ptr 7 [])]++List.replicate 7 .any++[(.bt 12 [] 3 0 1 (some 1)),(.int .i64 1),(.int .i64 0)]++List.replicate 4 .any++[(.bt 9 [] 6 0 2 (some 2)),(.int .i64 2),(.int .i64 0)]++List.replicate 31 .any,items:=[.code (az [1,0,0,1,1,0,0,1,1,0,0,1,1,1] (ag Tryz.f102)),.lp (az [1,0,0,1,1,0,0,1,1,0,0] (ag Tryz.f102)),.a6 2,.a6 1,.code (az [1,0,0,1,1,1] (ag Tryz.f102)),.lp (az [1,0,0] (ag Tryz.f102)),.a6 0],D:=[],base:=7},
  bn:=[{id:=29,kind:=.top,T:=[.any,.any,(.ptr 1 []),(.ptr 2 []),(.ptr 3 [])]++List.replicate 48 .any,items:=[.fin 6,.a6 0,.code (az [1,1,1,1] (ag Tryz.f29))],D:=[5],base:=0}],
  H:=[.dead,bO,bP,.cell true 4 (.bool false),(b6 x),.j1,.loop .ready none 29 ([.any,.any,(.ptr 1 []),(.ptr 2 []),(.ptr 3 [])]++List.replicate 48 .any) [47,48] (az [1,1,1,0,1,0,0] (ag Tryz.f29)) (az [1,1,1,0,1,0,1] (ag Tryz.f29)) 5,j4,.cell true 3 (.arr 2 (.int .i64) v43),F0,.cell true 5 (.arr 1 (.int .u8) v56),.cell true 5 (.arr 1 (.int .u8) v57),j5]}
 | .jM v43 v50=>
 {fr:={id:=102,kind:=(.iter 6),T:=[(.gM 6),(.ptr 4 []),.any,.any,(.ptr 7 [])]++List.replicate 7 .any++[(.bt 11 [] 3 0 1 (some 1)),(.int .i64 1),(.int .i64 0)]++List.replicate 4 .any++[(.bt 9 [] 6 0 1 (some 1)),(.int .i64 1),(.int .i64 0)]++List.replicate 31 .any,items:=[.code (az [1,0,0,1,1,0,0,1,1,0,0,1,1,1] (ag Tryz.f102)),.lp (az [1,0,0,1,1,0,0,1,1,0,0] (ag Tryz.f102)),.a6 2,.a6 1,.code (az [1,0,0,1,1,1] (ag Tryz.f102)),.lp (az [1,0,0] (ag Tryz.f102)),.a6 0],D:=[],base:=7},
  bn:=[{id:=29,kind:=.top,T:=[.any,.any,(.ptr 1 []),(.ptr 2 []),(.ptr 3 [])]++List.replicate 48 .any,items:=[.fin 6,.a6 0,.code (az [1,1,1,1] (ag Tryz.f29))],D:=[5],base:=0}],
  H:=[.dead,bO,bP,.cell true 4 (.bool false),(b6 x),.j1,.loop .ready none 29 ([.any,.any,(.ptr 1 []),(.ptr 2 []),(.ptr 3 [])]++List.replicate 48 .any) [47,48] (az [1,1,1,0,1,0,0] (ag Tryz.f29)) (az [1,1,1,0,1,0,1] (ag Tryz.f29)) 5,ja,.cell true 3 (.arr 2 (.int .i64) v43),.cell true 80 (.agg [6] [(.agg [1,1,1,1,1,1] [(.fn 141 []),(.fn 120 []),(.bt 10 [] 1 0 2 (some 2)),(.int .i64 0),(.int .i64 0),(.int .i64 4)])]),.cell true 5 (.arr 2 (.int .u8) v50),jb]}
 | .gF v43 v50=>
 {fr:={id:=102,kind:=(.iter 6),T:=[(.gM 6),(.ptr 4 []),.any,.any,(.ptr 7 [])]++List.replicate 7 .any++[(.bt 11 [] 3 0 1 (some 1)),(.int .i64 1),(.int .i64 0)]++List.replicate 4 .any++[(.bt 9 [] 6 0 1 (some 1)),(.int .i64 1),(.int .i64 0)]++List.replicate 31 .any,items:=[.code (az [1,0,0,1,1,0,0,1,1,0,0,1,1,1] (ag Tryz.f102)),.lp (az [1,0,0,1,1,0,0,1,1,0,0] (ag Tryz.f102)),.a6 2,.a6 1,.code (az [1,0,0,1,1,1] (ag Tryz.f102)),.lp (az [1,0,0] (ag Tryz.f102)),.a6 0],D:=[],base:=7},
  bn:=[{id:=29,kind:=.top,T:=[.any,.any,(.ptr 1 []),(.ptr 2 []),(.ptr 3 [])]++List.replicate 48 .any,items:=[.fin 6,.a6 0,.code (az [1,1,1,1] (ag Tryz.f29))],D:=[5],base:=0}],
  H:=[.dead,bO,bP,.cell true 4 (.bool false),(b6 x),.j1,.loop .ready none 29 ([.any,.any,(.ptr 1 []),(.ptr 2 []),(.ptr 3 [])]++List.replicate 48 .any) [47,48] (az [1,1,1,0,1,0,0] (ag Tryz.f29)) (az [1,1,1,0,1,0,1] (ag Tryz.f29)) 5,ja,.cell true 3 (.arr 2 (.int .i64) v43),.cell true 80 (.agg [6] [(.agg [1,1,1,1,1,1] [(.fn 141 []),(.fn 141 []),(.bt 10 [] 1 0 1 (some 1)),(.int .i64 0),(.int .i64 0),(.int .i64 0)])]),.cell true 5 (.arr 1 (.int .u8) v50),jb]}
 | .gJ v43 v50=>
 {fr:={id:=102,kind:=(.iter 6),T:=[(.gM 6),(.ptr 4 []),.any,.any,(.ptr 7 [])]++List.replicate 7 .any++[(.bt 11 [] 3 0 1 (some 1)),(.int .i64 1),(.int .i64 0)]++List.replicate 4 .any++[(.bt 9 [] 6 0 1 (some 1)),(.int .i64 1),(.int .i64 0)]++List.replicate 31 .any,items:=[.code (az [1,0,0,1,1,0,0,1,1,0,0,1,1,1] (ag Tryz.f102)),.lp (az [1,0,0,1,1,0,0,1,1,0,0] (ag Tryz.f102)),.a6 2,.a6 1,.code (az [1,0,0,1,1,1] (ag Tryz.f102)),.lp (az [1,0,0] (ag Tryz.f102)),.a6 0],D:=[],base:=7},
  bn:=[{id:=29,kind:=.top,T:=[.any,.any,(.ptr 1 []),(.ptr 2 []),(.ptr 3 [])]++List.replicate 48 .any,items:=[.fin 6,.a6 0,.code (az [1,1,1,1] (ag Tryz.f29))],D:=[5],base:=0}],
  H:=[.dead,bO,bP,.cell true 4 (.bool false),(b6 x),.j1,.loop .ready none 29 ([.any,.any,(.ptr 1 []),(.ptr 2 []),(.ptr 3 [])]++List.replicate 48 .any) [47,48] (az [1,1,1,0,1,0,0] (ag Tryz.f29)) (az [1,1,1,0,1,0,1] (ag Tryz.f29)) 5,ja,.cell true 3 (.arr 2 (.int .i64) v43),.cell true 80 (.agg [6] [(.agg [1,1,1,1,1,1] [(.fn 117 []),(.fn 141 []),(.bt 10 [] 1 0 1 (some 1)),(.int .i64 0),(.int .i64 3),(.int .i64 0)])]),.cell true 5 (.arr 1 (.int .u8) v50),jb]}
 | .lB=>
 {fr:={id:=29,kind:=.top,T:=[.any,.any,(.ptr 1 []),(.ptr 2 []),(.ptr 3 [])]++List.replicate 48 .any,items:=[.code (az [1,1,1,1,0] (ag Tryz.f29)),.code (az [1,1,1,1,1] (ag Tryz.f29))],D:=[0],base:=0},
  bn:=[],
  H:=[.j1,bO,bP,.cell true 4 (.bool false)]}
 | .BU v43 v59 v65 v68 v69 v70 v71=>
 {fr:={id:=102,kind:=(.iter 6),T:=[(.gM 6),(.ptr 4 []),.any,.any,(.ptr 7 [])]++List.replicate 7 .any++[(.bt 14 [] 3 0 1 (some 1)),(.int .i64 1),(.int .i64 0)]++List.replicate 4 .any++[(.bt 9 [] 6 0 4 (some 4)),(.int .i64 4),(.int .i64 1)]++List.replicate 31 .any,items:=[.code (az [1,0,0,1,1,0,0,1,1,0,0,1,1,1] (ag Tryz.f102)),.lp (az [1,0,0,1,1,0,0,1,1,0,0] (ag Tryz.f102)),.a6 2,.a6 1,.code (az [1,0,0,1,1,1] (ag Tryz.f102)),.lp (az [1,0,0] (ag Tryz.f102)),.a6 0],D:=[],base:=7},
  bn:=[{id:=29,kind:=.top,T:=[.any,.any,(.ptr 1 []),(.ptr 2 []),(.ptr 3 [])]++List.replicate 48 .any,items:=[.fin 6,.a6 0,.code (az [1,1,1,1] (ag Tryz.f29))],D:=[5],base:=0}],
  H:=[.dead,bO,bP,.cell true 4 (.bool false),(b6 x),.j1,.loop .ready none 29 ([.any,.any,(.ptr 1 []),(.ptr 2 []),(.ptr 3 [])]++List.replicate 48 .any) [47,48] (az [1,1,1,0,1,0,0] (ag Tryz.f29)) (az [1,1,1,0,1,0,1] (ag Tryz.f29)) 5,ou,.cell true 3 (.arr 2 (.int .i64) v43),.cell true 80 (.agg [6,6,6,6] [(.agg [1,1,1,1,1,1] [(.fn 116 []),(.fn 117 []),(.bt 10 [] 1 0 1 (some 1)),(.int .i64 (-1)),(.int .i64 1),(.int .i64 0)]),(.agg [1,1,1,1,1,1] [(.fn 117 []),(.fn 118 []),(.bt 11 [] 1 0 1 (some 1)),(.int .i64 (-1)),(.int .i64 2),(.int .i64 0)]),(.agg [1,1,1,1,1,1] [(.fn 116 []),(.fn 119 []),(.bt 12 [] 1 0 1 (some 1)),(.int .i64 v59),(.int .i64 1),(.int .i64 1)]),(.agg [1,1,1,1,1,1] [(.fn 116 []),(.fn 120 []),(.bt 13 [] 1 0 1 (some 1)),(.int .i64 v65),(.int .i64 1),(.int .i64 4)])]),.cell true 5 (.arr 1 (.int .u8) v68),.cell true 5 (.arr 1 (.int .u8) v69),.cell true 5 (.arr 1 (.int .u8) v70),.cell true 5 (.arr 1 (.int .u8) v71),ow]}
 | .wU v43 v62 v63 v64 v86 v105 v106 v107 v108 v115=>
 {fr:={id:=102,kind:=(.iter 6),T:=[(.gM 6),(.ptr 4 []),.any,.any,(.ptr 7 [])]++List.replicate 7 .any++[(.bt 13 [] 3 0 3 (some 3)),(.int .i64 3),(.int .i64 0)]++List.replicate 4 .any++[(.bt 9 [] 6 0 3 (some 3)),(.int .i64 3),(.int .i64 1)]++List.replicate 31 .any,items:=[.code (az [1,0,0,1,1,0,0,1,1,0,0,1,1,1] (ag Tryz.f102)),.lp (az [1,0,0,1,1,0,0,1,1,0,0] (ag Tryz.f102)),.a6 2,.a6 1,.code (az [1,0,0,1,1,1] (ag Tryz.f102)),.lp (az [1,0,0] (ag Tryz.f102)),.a6 0],D:=[],base:=7},
  bn:=[{id:=29,kind:=.top,T:=[.any,.any,(.ptr 1 []),(.ptr 2 []),(.ptr 3 [])]++List.replicate 48 .any,items:=[.fin 6,.a6 0,.code (az [1,1,1,1] (ag Tryz.f29))],D:=[5],base:=0}],
  H:=[.dead,bO,bP,.cell true 4 (.bool false),(b6 x),.j1,.loop .ready none 29 ([.any,.any,(.ptr 1 []),(.ptr 2 []),(.ptr 3 [])]++List.replicate 48 .any) [47,48] (az [1,1,1,0,1,0,0] (ag Tryz.f29)) (az [1,1,1,0,1,0,1] (ag Tryz.f29)) 5,vE,.cell true 3 (.arr 1 (.int .i64) v43),z3,.cell true 5 (.arr 1 (.int .u8) v62),.cell true 5 (.arr 1 (.int .u8) v63),.cell true 5 (.arr 1 (.int .u8) v64),zW,.cell true 3 (.arr 2 (.int .i64) v86),zZ,.cell true 5 (.arr 1 (.int .u8) v105),.cell true 5 (.arr 1 (.int .u8) v106),.cell true 5 (.arr 1 (.int .u8) v107),.cell true 3 (.arr 1 (.int .i64) v108),j6,.cell true 5 (.arr 1 (.int .u8) v115)]}
 | .Af v43 v56 v57=>
 {fr:={id:=102,kind:=(.iter 6),T:=[(.gM 6),(.ptr 4 []),.any,.any,(.ptr 7 [])]++List.replicate 7 .any++[(.bt 12 [] 3 0 1 (some 1)),(.int .i64 1),(.int .i64 0)]++List.replicate 4 .any++[(.bt 9 [] 6 0 2 (some 2)),(.int .i64 2),(.int .i64 1)]++List.replicate 31 .any,items:=[.code (az [1,0,0,1,1,0,0,1,1,0,0,1,1,1] (ag Tryz.f102)),.lp (az [1,0,0,1,1,0,0,1,1,0,0] (ag Tryz.f102)),.a6 2,.a6 1,.code (az [1,0,0,1,1,1] (ag Tryz.f102)),.lp (az [1,0,0] (ag Tryz.f102)),.a6 0],D:=[],base:=7},
  bn:=[{id:=29,kind:=.top,T:=[.any,.any,(.ptr 1 []),(.ptr 2 []),(.ptr 3 [])]++List.replicate 48 .any,items:=[.fin 6,.a6 0,.code (az [1,1,1,1] (ag Tryz.f29))],D:=[5],base:=0}],
  H:=[.dead,bO,bP,.cell true 4 (.bool false),(b6 x),.j1,.loop .ready none 29 ([.any,.any,(.ptr 1 []),(.ptr 2 []),(.ptr 3 [])]++List.replicate 48 .any) [47,48] (az [1,1,1,0,1,0,0] (ag Tryz.f29)) (az [1,1,1,0,1,0,1] (ag Tryz.f29)) 5,j4,.cell true 3 (.arr 2 (.int .i64) v43),F1,.cell true 5 (.arr 1 (.int .u8) v56),.cell true 5 (.arr 1 (.int .u8) v57),j5]}
 | .BT v43 v47 v53 v56 v57=>
 {fr:={id:=102,kind:=(.iter 6),T:=[(.gM 6),(.ptr 4 []),.any,.any,(.ptr 7 [])]++List.replicate 7 .any++[(.bt 12 [] 3 0 1 (some 1)),(.int .i64 1),(.int .i64 0)]++List.replicate 4 .any++[(.bt 9 [] 6 0 2 (some 2)),(.int .i64 2),(.int .i64 1)]++List.replicate 31 .any,items:=[.code (az [1,0,0,1,1,0,0,1,1,0,0,1,1,1] (ag Tryz.f102)),.lp (az [1,0,0,1,1,0,0,1,1,0,0] (ag Tryz.f102)),.a6 2,.a6 1,.code (az [1,0,0,1,1,1] (ag Tryz.f102)),.lp (az [1,0,0] (ag Tryz.f102)),.a6 0],D:=[],base:=7},
  bn:=[{id:=29,kind:=.top,T:=[.any,.any,(.ptr 1 []),(.ptr 2 []),(.ptr 3 [])]++List.replicate 48 .any,items:=[.fin 6,.a6 0,.code (az [1,1,1,1] (ag Tryz.f29))],D:=[5],base:=0}],
  H:=[.dead,bO,bP,.cell true 4 (.bool false),(b6 x),.j1,.loop .ready none 29 ([.any,.any,(.ptr 1 []),(.ptr 2 []),(.ptr 3 [])]++List.replicate 48 .any) [47,48] (az [1,1,1,0,1,0,0] (ag Tryz.f29)) (az [1,1,1,0,1,0,1] (ag Tryz.f29)) 5,j4,.cell true 3 (.arr 2 (.int .i64) v43),.cell true 80 (.agg [6,6] [(.agg [1,1,1,1,1,1] [(.fn 116 []),(.fn 126 []),(.bt 10 [] 1 0 1 (some 1)),(.int .i64 v47),(.int .i64 1),(.int .i64 1)]),(.agg [1,1,1,1,1,1] [(.fn 116 []),(.fn 127 []),(.bt 11 [] 1 0 1 (some 1)),(.int .i64 v53),(.int .i64 1),(.int .i64 0)])]),.cell true 5 (.arr 1 (.int .u8) v56),.cell true 5 (.arr 1 (.int .u8) v57),j5]}
 | .BS v43 v56 v57=>
 {fr:={id:=102,kind:=(.iter 6),T:=[(.gM 6),(.ptr 4 []),.any,.any,(.ptr 7 [])]++List.replicate 7 .any++[(.bt 12 [] 3 0 1 (some 1)),(.int .i64 1),(.int .i64 0)]++List.replicate 4 .any++[(.bt 9 [] 6 0 2 (some 2)),(.int .i64 2),(.int .i64 1)]++List.replicate 31 .any,items:=[.code (az [1,0,0,1,1,0,0,1,1,0,0,1,1,1] (ag Tryz.f102)),.lp (az [1,0,0,1,1,0,0,1,1,0,0] (ag Tryz.f102)),.a6 2,.a6 1,.code (az [1,0,0,1,1,1] (ag Tryz.f102)),.lp (az [1,0,0] (ag Tryz.f102)),.a6 0],D:=[],base:=7},
  bn:=[{id:=29,kind:=.top,T:=[.any,.any,(.ptr 1 []),(.ptr 2 []),(.ptr 3 [])]++List.replicate 48 .any,items:=[.fin 6,.a6 0,.code (az [1,1,1,1] (ag Tryz.f29))],D:=[5],base:=0}],
  H:=[.dead,bO,bP,.cell true 4 (.bool false),(b6 x),.j1,.loop .ready none 29 ([.any,.any,(.ptr 1 []),(.ptr 2 []),(.ptr 3 [])]++List.replicate 48 .any) [47,48] (az [1,1,1,0,1,0,0] (ag Tryz.f29)) (az [1,1,1,0,1,0,1] (ag Tryz.f29)) 5,.cell true 76 (.agg [1,1,1] [(.bt 8 [] 1 0 1 (some 1)),(.int .u8 243),(.bt 9 [] 6 0 2 (some 2))]),.cell true 3 (.arr 1 (.int .i64) v43),F2,.cell true 5 (.arr 2 (.int .u8) v56),.cell true 5 (.arr 2 (.int .u8) v57),.cell true 76 (.agg [3] [(.agg [1,1,1] [(.bt 8 [] 1 0 1 (some 1)),(.int .u8 243),(.bt 9 [] 6 0 2 (some 2))])])]}
 | .zu v43 v56 v57=>
 {fr:={id:=102,kind:=(.iter 6),T:=[(.gM 6),(.ptr 4 []),.any,.any,(.ptr 7 [])]++List.replicate 7 .any++[(.bt 12 [] 3 0 1 (some 1)),(.int .i64 1),(.int .i64 0)]++List.replicate 4 .any++[(.bt 9 [] 6 0 2 (some 2)),(.int .i64 2),(.int .i64 1)]++List.replicate 31 .any,items:=[.code (az [1,0,0,1,1,0,0,1,1,0,0,1,1,1] (ag Tryz.f102)),.lp (az [1,0,0,1,1,0,0,1,1,0,0] (ag Tryz.f102)),.a6 2,.a6 1,.code (az [1,0,0,1,1,1] (ag Tryz.f102)),.lp (az [1,0,0] (ag Tryz.f102)),.a6 0],D:=[],base:=7},
  bn:=[{id:=29,kind:=.top,T:=[.any,.any,(.ptr 1 []),(.ptr 2 []),(.ptr 3 [])]++List.replicate 48 .any,items:=[.fin 6,.a6 0,.code (az [1,1,1,1] (ag Tryz.f29))],D:=[5],base:=0}],
  H:=[.dead,bO,bP,.cell true 4 (.bool false),(b6 x),.j1,.loop .ready none 29 ([.any,.any,(.ptr 1 []),(.ptr 2 []),(.ptr 3 [])]++List.replicate 48 .any) [47,48] (az [1,1,1,0,1,0,0] (ag Tryz.f29)) (az [1,1,1,0,1,0,1] (ag Tryz.f29)) 5,j4,.cell true 3 (.arr 2 (.int .i64) v43),F0,.cell true 5 (.arr 1 (.int .u8) v56),.cell true 5 (.arr 1 (.int .u8) v57),j5]}
 | .BR v43 v59 v65 v68 v69 v70 v71=>
 {fr:={id:=102,kind:=(.iter 6),T:=[(.gM 6),(.ptr 4 []),.any,.any,(.ptr 7 [])]++List.replicate 7 .any++[(.bt 14 [] 3 0 1 (some 1)),(.int .i64 1),(.int .i64 0)]++List.replicate 4 .any++[(.bt 9 [] 6 0 4 (some 4)),(.int .i64 4),(.int .i64 2)]++List.replicate 31 .any,items:=[.code (az [1,0,0,1,1,0,0,1,1,0,0,1,1,1] (ag Tryz.f102)),.lp (az [1,0,0,1,1,0,0,1,1,0,0] (ag Tryz.f102)),.a6 2,.a6 1,.code (az [1,0,0,1,1,1] (ag Tryz.f102)),.lp (az [1,0,0] (ag Tryz.f102)),.a6 0],D:=[],base:=7},
  bn:=[{id:=29,kind:=.top,T:=[.any,.any,(.ptr 1 []),(.ptr 2 []),(.ptr 3 [])]++List.replicate 48 .any,items:=[.fin 6,.a6 0,.code (az [1,1,1,1] (ag Tryz.f29))],D:=[5],base:=0}],
  H:=[.dead,bO,bP,.cell true 4 (.bool false),(b6 x),.j1,.loop .ready none 29 ([.any,.any,(.ptr 1 []),(.ptr 2 []),(.ptr 3 [])]++List.replicate 48 .any) [47,48] (az [1,1,1,0,1,0,0] (ag Tryz.f29)) (az [1,1,1,0,1,0,1] (ag Tryz.f29)) 5,ou,.cell true 3 (.arr 2 (.int .i64) v43),.cell true 80 (.agg [6,6,6,6] [(.agg [1,1,1,1,1,1] [(.fn 116 []),(.fn 117 []),(.bt 10 [] 1 0 1 (some 1)),(.int .i64 (-1)),(.int .i64 1),(.int .i64 0)]),(.agg [1,1,1,1,1,1] [(.fn 117 []),(.fn 118 []),(.bt 11 [] 1 0 1 (some 1)),(.int .i64 (-1)),(.int .i64 2),(.int .i64 0)]),(.agg [1,1,1,1,1,1] [(.fn 116 []),(.fn 119 []),(.bt 12 [] 1 0 1 (some 1)),(.int .i64 v59),(.int .i64 1),(.int .i64 1)]),(.agg [1,1,1,1,1,1] [(.fn 116 []),(.fn 120 []),(.bt 13 [] 1 0 1 (some 1)),(.int .i64 v65),(.int .i64 1),(.int .i64 4)])]),.cell true 5 (.arr 1 (.int .u8) v68),.cell true 5 (.arr 1 (.int .u8) v69),.cell true 5 (.arr 1 (.int .u8) v70),.cell true 5 (.arr 1 (.int .u8) v71),ow]}
 | .BQ v43 v62 v63 v64 v86 v105 v106 v107 v108 v115=>
 {fr:={id:=102,kind:=(.iter 6),T:=[(.gM 6),(.ptr 4 []),.any,.any,(.ptr 7 [])]++List.replicate 7 .any++[(.bt 13 [] 3 0 3 (some 3)),(.int .i64 3),(.int .i64 0)]++List.replicate 4 .any++[(.bt 9 [] 6 0 3 (some 3)),(.int .i64 3),(.int .i64 2)]++List.replicate 31 .any,items:=[.code (az [1,0,0,1,1,0,0,1,1,0,0,1,1,1] (ag Tryz.f102)),.lp (az [1,0,0,1,1,0,0,1,1,0,0] (ag Tryz.f102)),.a6 2,.a6 1,.code (az [1,0,0,1,1,1] (ag Tryz.f102)),.lp (az [1,0,0] (ag Tryz.f102)),.a6 0],D:=[],base:=7},
  bn:=[{id:=29,kind:=.top,T:=[.any,.any,(.ptr 1 []),(.ptr 2 []),(.ptr 3 [])]++List.replicate 48 .any,items:=[.fin 6,.a6 0,.code (az [1,1,1,1] (ag Tryz.f29))],D:=[5],base:=0}],
  H:=[.dead,bO,bP,.cell true 4 (.bool false),(b6 x),.j1,.loop .ready none 29 ([.any,.any,(.ptr 1 []),(.ptr 2 []),(.ptr 3 [])]++List.replicate 48 .any) [47,48] (az [1,1,1,0,1,0,0] (ag Tryz.f29)) (az [1,1,1,0,1,0,1] (ag Tryz.f29)) 5,vE,.cell true 3 (.arr 1 (.int .i64) v43),z3,.cell true 5 (.arr 1 (.int .u8) v62),.cell true 5 (.arr 1 (.int .u8) v63),.cell true 5 (.arr 1 (.int .u8) v64),zW,.cell true 3 (.arr 2 (.int .i64) v86),zZ,.cell true 5 (.arr 1 (.int .u8) v105),.cell true 5 (.arr 1 (.int .u8) v106),.cell true 5 (.arr 1 (.int .u8) v107),.cell true 3 (.arr 1 (.int .i64) v108),j6,.cell true 5 (.arr 1 (.int .u8) v115)]}
 | .BP v43 v59 v65 v68 v69 v70 v71=>
 {fr:={id:=102,kind:=(.iter 6),T:=[(.gM 6),(.ptr 4 []),.any,.any,(.ptr 7 [])]++List.replicate 7 .any++[(.bt 14 [] 3 0 1 (some 1)),(.int .i64 1),(.int .i64 0)]++List.replicate 4 .any++[(.bt 9 [] 6 0 4 (some 4)),(.int .i64 4),(.int .i64 3)]++List.replicate 31 .any,items:=[.code (az [1,0,0,1,1,0,0,1,1,0,0,1,1,1] (ag Tryz.f102)),.lp (az [1,0,0,1,1,0,0,1,1,0,0] (ag Tryz.f102)),.a6 2,.a6 1,.code (az [1,0,0,1,1,1] (ag Tryz.f102)),.lp (az [1,0,0] (ag Tryz.f102)),.a6 0],D:=[],base:=7},
  bn:=[{id:=29,kind:=.top,T:=[.any,.any,(.ptr 1 []),(.ptr 2 []),(.ptr 3 [])]++List.replicate 48 .any,items:=[.fin 6,.a6 0,.code (az [1,1,1,1] (ag Tryz.f29))],D:=[5],base:=0}],
  H:=[.dead,bO,bP,.cell true 4 (.bool false),(b6 x),.j1,.loop .ready none 29 ([.any,.any,(.ptr 1 []),(.ptr 2 []),(.ptr 3 [])]++List.replicate 48 .any) [47,48] (az [1,1,1,0,1,0,0] (ag Tryz.f29)) (az [1,1,1,0,1,0,1] (ag Tryz.f29)) 5,ou,.cell true 3 (.arr 2 (.int .i64) v43),.cell true 80 (.agg [6,6,6,6] [(.agg [1,1,1,1,1,1] [(.fn 116 []),(.fn 117 []),(.bt 10 [] 1 0 1 (some 1)),(.int .i64 (-1)),(.int .i64 1),(.int .i64 0)]),(.agg [1,1,1,1,1,1] [(.fn 117 []),(.fn 118 []),(.bt 11 [] 1 0 1 (some 1)),(.int .i64 (-1)),(.int .i64 2),(.int .i64 0)]),(.agg [1,1,1,1,1,1] [(.fn 116 []),(.fn 119 []),(.bt 12 [] 1 0 1 (some 1)),(.int .i64 v59),(.int .i64 1),(.int .i64 1)]),(.agg [1,1,1,1,1,1] [(.fn 116 []),(.fn 120 []),(.bt 13 [] 1 0 1 (some 1)),(.int .i64 v65),(.int .i64 1),(.int .i64 4)])]),.cell true 5 (.arr 1 (.int .u8) v68),.cell true 5 (.arr 1 (.int .u8) v69),.cell true 5 (.arr 1 (.int .u8) v70),.cell true 5 (.arr 1 (.int .u8) v71),ow]}
 | .BO v43 v62 v63 v64 v86 v105 v106 v107 v108 v115=>
 {fr:={id:=102,kind:=(.iter 6),T:=[(.gM 6),(.ptr 4 []),.any,.any,(.ptr 7 [])]++List.replicate 7 .any++[(.bt 13 [] 3 0 3 (some 3)),(.int .i64 3),(.int .i64 1)]++List.replicate 4 .any++[(.bt 9 [] 6 0 3 (some 3)),(.int .i64 3),(.int .i64 0)]++List.replicate 31 .any,items:=[.code (az [1,0,0,1,1,0,0,1,1,0,0,1,1,1] (ag Tryz.f102)),.lp (az [1,0,0,1,1,0,0,1,1,0,0] (ag Tryz.f102)),.a6 2,.a6 1,.code (az [1,0,0,1,1,1] (ag Tryz.f102)),.lp (az [1,0,0] (ag Tryz.f102)),.a6 0],D:=[],base:=7},
  bn:=[{id:=29,kind:=.top,T:=[.any,.any,(.ptr 1 []),(.ptr 2 []),(.ptr 3 [])]++List.replicate 48 .any,items:=[.fin 6,.a6 0,.code (az [1,1,1,1] (ag Tryz.f29))],D:=[5],base:=0}],
  H:=[.dead,bO,bP,.cell true 4 (.bool false),(b6 x),.j1,.loop .ready none 29 ([.any,.any,(.ptr 1 []),(.ptr 2 []),(.ptr 3 [])]++List.replicate 48 .any) [47,48] (az [1,1,1,0,1,0,0] (ag Tryz.f29)) (az [1,1,1,0,1,0,1] (ag Tryz.f29)) 5,vD,.cell true 3 (.arr 2 (.int .i64) v43),zY,.cell true 5 (.arr 1 (.int .u8) v62),.cell true 5 (.arr 1 (.int .u8) v63),.cell true 5 (.arr 1 (.int .u8) v64),zV,.cell true 3 (.arr 1 (.int .i64) v86),zX,.cell true 5 (.arr 1 (.int .u8) v105),.cell true 5 (.arr 1 (.int .u8) v106),.cell true 5 (.arr 1 (.int .u8) v107),.cell true 3 (.arr 1 (.int .i64) v108),j6,.cell true 5 (.arr 1 (.int .u8) v115)]}
 | .BN v43 v62 v63 v64 v86 v105 v106 v107 v108 v115=>
 {fr:={id:=102,kind:=(.iter 6),T:=[(.gM 6),(.ptr 4 []),.any,.any,(.ptr 7 [])]++List.replicate 7 .any++[(.bt 13 [] 3 0 3 (some 3)),(.int .i64 3),(.int .i64 1)]++List.replicate 4 .any++[(.bt 9 [] 6 0 3 (some 3)),(.int .i64 3),(.int .i64 1)]++List.replicate 31 .any,items:=[.code (az [1,0,0,1,1,0,0,1,1,0,0,1,1,1] (ag Tryz.f102)),.lp (az [1,0,0,1,1,0,0,1,1,0,0] (ag Tryz.f102)),.a6 2,.a6 1,.code (az [1,0,0,1,1,1] (ag Tryz.f102)),.lp (az [1,0,0] (ag Tryz.f102)),.a6 0],D:=[],base:=7},
  bn:=[{id:=29,kind:=.top,T:=[.any,.any,(.ptr 1 []),(.ptr 2 []),(.ptr 3 [])]++List.replicate 48 .any,items:=[.fin 6,.a6 0,.code (az [1,1,1,1] (ag Tryz.f29))],D:=[5],base:=0}],
  H:=[.dead,bO,bP,.cell true 4 (.bool false),(b6 x),.j1,.loop .ready none 29 ([.any,.any,(.ptr 1 []),(.ptr 2 []),(.ptr 3 [])]++List.replicate 48 .any) [47,48] (az [1,1,1,0,1,0,0] (ag Tryz.f29)) (az [1,1,1,0,1,0,1] (ag Tryz.f29)) 5,vD,.cell true 3 (.arr 2 (.int .i64) v43),zY,.cell true 5 (.arr 1 (.int .u8) v62),.cell true 5 (.arr 1 (.int .u8) v63),.cell true 5 (.arr 1 (.int .u8) v64),zV,.cell true 3 (.arr 1 (.int .i64) v86),zX,.cell true 5 (.arr 1 (.int .u8) v105),.cell true 5 (.arr 1 (.int .u8) v106),.cell true 5 (.arr 1 (.int .u8) v107),.cell true 3 (.arr 1 (.int .i64) v108),j6,.cell true 5 (.arr 1 (.int .u8) v115)]}
 | .BM v43 v62 v63 v64 v86 v105 v106 v107 v108 v115=>
 {fr:={id:=102,kind:=(.iter 6),T:=[(.gM 6),(.ptr 4 []),.any,.any,(.ptr 7 [])]++List.replicate 7 .any++[(.bt 13 [] 3 0 3 (some 3)),(.int .i64 3),(.int .i64 1)]++List.replicate 4 .any++[(.bt 9 [] 6 0 3 (some 3)),(.int .i64 3),(.int .i64 2)]++List.replicate 31 .any,items:=[.code (az [1,0,0,1,1,0,0,1,1,0,0,1,1,1] (ag Tryz.f102)),.lp (az [1,0,0,1,1,0,0,1,1,0,0] (ag Tryz.f102)),.a6 2,.a6 1,.code (az [1,0,0,1,1,1] (ag Tryz.f102)),.lp (az [1,0,0] (ag Tryz.f102)),.a6 0],D:=[],base:=7},
  bn:=[{id:=29,kind:=.top,T:=[.any,.any,(.ptr 1 []),(.ptr 2 []),(.ptr 3 [])]++List.replicate 48 .any,items:=[.fin 6,.a6 0,.code (az [1,1,1,1] (ag Tryz.f29))],D:=[5],base:=0}],
  H:=[.dead,bO,bP,.cell true 4 (.bool false),(b6 x),.j1,.loop .ready none 29 ([.any,.any,(.ptr 1 []),(.ptr 2 []),(.ptr 3 [])]++List.replicate 48 .any) [47,48] (az [1,1,1,0,1,0,0] (ag Tryz.f29)) (az [1,1,1,0,1,0,1] (ag Tryz.f29)) 5,vD,.cell true 3 (.arr 2 (.int .i64) v43),zY,.cell true 5 (.arr 1 (.int .u8) v62),.cell true 5 (.arr 1 (.int .u8) v63),.cell true 5 (.arr 1 (.int .u8) v64),zV,.cell true 3 (.arr 1 (.int .i64) v86),zX,.cell true 5 (.arr 1 (.int .u8) v105),.cell true 5 (.arr 1 (.int .u8) v106),.cell true 5 (.arr 1 (.int .u8) v107),.cell true 3 (.arr 1 (.int .i64) v108),j6,.cell true 5 (.arr 1 (.int .u8) v115)]}
 | .BL v43 v50 v72 v91 v92 v93 v94 v113 v114 v115=>
 {fr:={id:=102,kind:=(.iter 6),T:=[(.gM 6),(.ptr 4 []),.any,.any,(.ptr 7 [])]++List.replicate 7 .any++[(.bt 11 [] 3 0 3 (some 3)),(.int .i64 3),(.int .i64 2)]++List.replicate 4 .any++[(.bt 9 [] 6 0 1 (some 1)),(.int .i64 1),(.int .i64 0)]++List.replicate 31 .any,items:=[.code (az [1,0,0,1,1,0,0,1,1,0,0,1,1,1] (ag Tryz.f102)),.lp (az [1,0,0,1,1,0,0,1,1,0,0] (ag Tryz.f102)),.a6 2,.a6 1,.code (az [1,0,0,1,1,1] (ag Tryz.f102)),.lp (az [1,0,0] (ag Tryz.f102)),.a6 0],D:=[],base:=7},
  bn:=[{id:=29,kind:=.top,T:=[.any,.any,(.ptr 1 []),(.ptr 2 []),(.ptr 3 [])]++List.replicate 48 .any,items:=[.fin 6,.a6 0,.code (az [1,1,1,1] (ag Tryz.f29))],D:=[5],base:=0}],
  H:=[.dead,bO,bP,.cell true 4 (.bool false),(b6 x),.j1,.loop .ready none 29 ([.any,.any,(.ptr 1 []),(.ptr 2 []),(.ptr 3 [])]++List.replicate 48 .any) [47,48] (az [1,1,1,0,1,0,0] (ag Tryz.f29)) (az [1,1,1,0,1,0,1] (ag Tryz.f29)) 5,.cell true 76 (.agg [1,1,1] [(.bt 8 [] 1 0 1 (some 1)),(.int .u8 0),(.bt 9 [] 6 0 1 (some 1))]),.cell true 3 (.arr 1 (.int .i64) v43),.cell true 80 (.agg [6] [(.agg [1,1,1,1,1,1] [(.fn 117 []),(.fn 156 []),(.bt 10 [] 1 0 1 (some 1)),(.int .i64 0),(.int .i64 3),(.int .i64 8)])]),.cell true 5 (.arr 1 (.int .u8) v50),.cell true 76 (.agg [3,3,3] [(.agg [1,1,1] [(.bt 12 [] 1 0 1 (some 1)),(.int .u8 0),(.bt 13 [] 6 0 3 (some 3))]),(.agg [1,1,1] [(.bt 17 [] 1 0 2 (some 2)),(.int .u8 0),(.bt 18 [] 6 0 3 (some 3))]),(.agg [1,1,1] [(.bt 8 [] 1 0 1 (some 1)),(.int .u8 0),(.bt 9 [] 6 0 1 (some 1))])]),.cell true 3 (.arr 1 (.int .i64) v72),.cell true 80 (.agg [6,6,6] [(.agg [1,1,1,1,1,1] [(.fn 116 []),(.fn 117 []),(.bt 14 [] 1 0 1 (some 1)),(.int .i64 (-1)),(.int .i64 1),(.int .i64 0)]),(.agg [1,1,1,1,1,1] [(.fn 117 []),(.fn 118 []),(.bt 15 [] 1 0 1 (some 1)),(.int .i64 (-1)),(.int .i64 2),(.int .i64 0)]),(.agg [1,1,1,1,1,1] [(.fn 116 []),(.fn 119 []),(.bt 16 [] 1 0 1 (some 1)),(.int .i64 0),(.int .i64 1),(.int .i64 1)])]),.cell true 5 (.arr 1 (.int .u8) v91),.cell true 5 (.arr 1 (.int .u8) v92),.cell true 5 (.arr 1 (.int .u8) v93),.cell true 3 (.arr 2 (.int .i64) v94),.cell true 80 (.agg [6,6,6] [(.agg [1,1,1,1,1,1] [(.fn 116 []),(.fn 117 []),(.bt 19 [] 1 0 1 (some 1)),(.int .i64 (-1)),(.int .i64 1),(.int .i64 0)]),(.agg [1,1,1,1,1,1] [(.fn 117 []),(.fn 118 []),(.bt 20 [] 1 0 1 (some 1)),(.int .i64 (-1)),(.int .i64 2),(.int .i64 0)]),(.agg [1,1,1,1,1,1] [(.fn 116 []),(.fn 120 []),(.bt 21 [] 1 0 1 (some 1)),(.int .i64 0),(.int .i64 1),(.int .i64 4)])]),.cell true 5 (.arr 1 (.int .u8) v113),.cell true 5 (.arr 1 (.int .u8) v114),.cell true 5 (.arr 1 (.int .u8) v115)]}
noncomputable def cF:FuncId→Nat→Nat→Option Cut
 | 29,9,0=>some {tmps:=[1,2,3,4],loops:=[],dead:=[],bn:=[]}
 | 102,15,7=>some {tmps:=[0,1,4,12,13,14,19,20,21],loops:=[(6,[2,3,4])],dead:=[0],bn:=[[2,3,4]]}
 | 29,17,0=>some {tmps:=[2,3,4],loops:=[],dead:=[],bn:=[]}
 | _,_,_=>none
noncomputable def LV (x:DI):ck:=gy (TC.kV (.st (.st (.slice (.int .i64)) (.st (.int .u8) (.bp .bx))) (.st (.st .bx (.st .bx (.st (.slice (.int .u8)) (.st (.int .i64) (.st (.int .i64) (.bp (.int .i64))))))) (.bp .bool)))) (ai x) (oX x)
def Jw (x:DI):Prop:=∃ r,Ends (ai x) r (oX x)
noncomputable def cn:Spec:={er:=(.bp bB),cg:=(.st (.st (.slice (.int .i64)) (.st (.int .u8) (.bp .bx))) (.st (.st .bx (.st .bx (.st (.slice (.int .u8)) (.st (.int .i64) (.st (.int .i64) (.bp (.int .i64))))))) (.bp .bool))),n:=3,pre:=Jw,f:=LV}
noncomputable def cq:FuncId→Option Spec
 | 104=>some rN
 | 114=>some l9
 | 116=>some rH
 | 117=>some rG
 | 118=>some nG
 | 119=>some rF
 | 120=>some rE
 | 123=>some nF
 | 124=>some rD
 | 126=>some rC
 | 127=>some rB
 | 141=>some rA
 | 156=>some kj
 | _=>none
theorem Hu:∀ f sp,cq f=some sp→ah av f sp:=by
 intro f sp h
 unfold cq at h
 split at h
 ·cases h;exact Tk
 ·cases h;exact Td
 ·cases h;exact Tc
 ·cases h;exact Tb
 ·cases h;exact M9
 ·cases h;exact Ta
 ·cases h;exact S9
 ·cases h;exact M8
 ·cases h;exact S8
 ·cases h;exact S7
 ·cases h;exact S6
 ·cases h;exact S5
 ·cases h;exact Fl
 ·cases h
section
variable (W:cB) (Q:ck→Prop) (x:DI)
theorem Rr:run (env cq (fun _=>none) false (fun _ _=>none)) cF (bz cn Q) W 100000 (a7 29 Tryz.f29 (ag Tryz.f29) (bg (.bp bB) x)) [] []=(oX x).wp (cr W Q (ay x)):=by kernel_rfl
theorem Ll:run (env cq (fun _=>none) false (fun _ _=>none)) cF (bz cn Q) W 100000 (ay x (.h0)).fr.enter (ay x (.h0)).bn (ay x (.h0)).H=(ai x (.h0)).wp (cr W Q (ay x)):=by kernel_rfl
theorem Lk (v43:List Int) (v59 v65:Int) (v68 v69:List Int) (v70 v71:List Int):run (env cq (fun _=>none) false (fun _ _=>none)) cF (bz cn Q) W 100000 (ay x (.h1 v43 v59 v65 v68 v69 v70 v71)).fr.enter (ay x (.h1 v43 v59 v65 v68 v69 v70 v71)).bn (ay x (.h1 v43 v59 v65 v68 v69 v70 v71)).H=(ai x (.h1 v43 v59 v65 v68 v69 v70 v71)).wp (cr W Q (ay x)):=by kernel_rfl
theorem Lj (v43 v62:List Int) (v63 v64:List Int) (v86 v105:List Int) (v106 v107:List Int) (v108 v115:List Int):run (env cq (fun _=>none) false (fun _ _=>none)) cF (bz cn Q) W 100000 (ay x (.h2 v43 v62 v63 v64 v86 v105 v106 v107 v108 v115)).fr.enter (ay x (.h2 v43 v62 v63 v64 v86 v105 v106 v107 v108 v115)).bn (ay x (.h2 v43 v62 v63 v64 v86 v105 v106 v107 v108 v115)).H=(ai x (.h2 v43 v62 v63 v64 v86 v105 v106 v107 v108 v115)).wp (cr W Q (ay x)):=by kernel_rfl
theorem Li (v43 v50:List Int):run (env cq (fun _=>none) false (fun _ _=>none)) cF (bz cn Q) W 100000 (ay x (.h3 v43 v50)).fr.enter (ay x (.h3 v43 v50)).bn (ay x (.h3 v43 v50)).H=(ai x (.h3 v43 v50)).wp (cr W Q (ay x)):=by kernel_rfl
theorem Lh (v43 v56 v57:List Int):run (env cq (fun _=>none) false (fun _ _=>none)) cF (bz cn Q) W 100000 (ay x (.h4 v43 v56 v57)).fr.enter (ay x (.h4 v43 v56 v57)).bn (ay x (.h4 v43 v56 v57)).H=(ai x (.h4 v43 v56 v57)).wp (cr W Q (ay x)):=by kernel_rfl
theorem Lg (v43:List Int) (v47:Int) (v50:List Int):run (env cq (fun _=>none) false (fun _ _=>none)) cF (bz cn Q) W 100000 (ay x (.h5 v43 v47 v50)).fr.enter (ay x (.h5 v43 v47 v50)).bn (ay x (.h5 v43 v47 v50)).H=(ai x (.h5 v43 v47 v50)).wp (cr W Q (ay x)):=by kernel_rfl
theorem Lf (v43:List Int) (v47 v53:Int) (v56 v57:List Int):run (env cq (fun _=>none) false (fun _ _=>none)) cF (bz cn Q) W 100000 (ay x (.h6 v43 v47 v53 v56 v57)).fr.enter (ay x (.h6 v43 v47 v53 v56 v57)).bn (ay x (.h6 v43 v47 v53 v56 v57)).H=(ai x (.h6 v43 v47 v53 v56 v57)).wp (cr W Q (ay x)):=by kernel_rfl
theorem Le (v43 v50:List Int):run (env cq (fun _=>none) false (fun _ _=>none)) cF (bz cn Q) W 100000 (ay x (.h7 v43 v50)).fr.enter (ay x (.h7 v43 v50)).bn (ay x (.h7 v43 v50)).H=(ai x (.h7 v43 v50)).wp (cr W Q (ay x)):=by kernel_rfl
theorem Ld (v43 v50:List Int):run (env cq (fun _=>none) false (fun _ _=>none)) cF (bz cn Q) W 100000 (ay x (.h8 v43 v50)).fr.enter (ay x (.h8 v43 v50)).bn (ay x (.h8 v43 v50)).H=(ai x (.h8 v43 v50)).wp (cr W Q (ay x)):=by kernel_rfl
theorem Lc (v43 v56 v57:List Int):run (env cq (fun _=>none) false (fun _ _=>none)) cF (bz cn Q) W 100000 (ay x (.h9 v43 v56 v57)).fr.enter (ay x (.h9 v43 v56 v57)).bn (ay x (.h9 v43 v56 v57)).H=(ai x (.h9 v43 v56 v57)).wp (cr W Q (ay x)):=by kernel_rfl
theorem I3 (v43 v50:List Int):run (env cq (fun _=>none) false (fun _ _=>none)) cF (bz cn Q) W 100000 (ay x (.BV v43 v50)).fr.enter (ay x (.BV v43 v50)).bn (ay x (.BV v43 v50)).H=(ai x (.BV v43 v50)).wp (cr W Q (ay x)):=by kernel_rfl
theorem I2 (v43:List Int) (v49:Int) (v50:List Int):run (env cq (fun _=>none) false (fun _ _=>none)) cF (bz cn Q) W 100000 (ay x (.vm v43 v49 v50)).fr.enter (ay x (.vm v43 v49 v50)).bn (ay x (.vm v43 v49 v50)).H=(ai x (.vm v43 v49 v50)).wp (cr W Q (ay x)):=by kernel_rfl
theorem I1 (v43 v50:List Int):run (env cq (fun _=>none) false (fun _ _=>none)) cF (bz cn Q) W 100000 (ay x (.lC v43 v50)).fr.enter (ay x (.lC v43 v50)).bn (ay x (.lC v43 v50)).H=(ai x (.lC v43 v50)).wp (cr W Q (ay x)):=by kernel_rfl
theorem I0 (v43 v56 v57:List Int):run (env cq (fun _=>none) false (fun _ _=>none)) cF (bz cn Q) W 100000 (ay x (.kz v43 v56 v57)).fr.enter (ay x (.kz v43 v56 v57)).bn (ay x (.kz v43 v56 v57)).H=(ai x (.kz v43 v56 v57)).wp (cr W Q (ay x)):=by kernel_rfl
theorem IZ (v43 v50:List Int):run (env cq (fun _=>none) false (fun _ _=>none)) cF (bz cn Q) W 100000 (ay x (.jM v43 v50)).fr.enter (ay x (.jM v43 v50)).bn (ay x (.jM v43 v50)).H=(ai x (.jM v43 v50)).wp (cr W Q (ay x)):=by kernel_rfl
theorem IY (v43 v50:List Int):run (env cq (fun _=>none) false (fun _ _=>none)) cF (bz cn Q) W 100000 (ay x (.gF v43 v50)).fr.enter (ay x (.gF v43 v50)).bn (ay x (.gF v43 v50)).H=(ai x (.gF v43 v50)).wp (cr W Q (ay x)):=by kernel_rfl
theorem IX (v43 v50:List Int):run (env cq (fun _=>none) false (fun _ _=>none)) cF (bz cn Q) W 100000 (ay x (.gJ v43 v50)).fr.enter (ay x (.gJ v43 v50)).bn (ay x (.gJ v43 v50)).H=(ai x (.gJ v43 v50)).wp (cr W Q (ay x)):=by kernel_rfl
theorem IW:run (env cq (fun _=>none) false (fun _ _=>none)) cF (bz cn Q) W 100000 (ay x (.lB)).fr.enter (ay x (.lB)).bn (ay x (.lB)).H=(ai x (.lB)).wp (cr W Q (ay x)):=by kernel_rfl
theorem IV (v43:List Int) (v59 v65:Int) (v68 v69:List Int) (v70 v71:List Int):run (env cq (fun _=>none) false (fun _ _=>none)) cF (bz cn Q) W 100000 (ay x (.BU v43 v59 v65 v68 v69 v70 v71)).fr.enter (ay x (.BU v43 v59 v65 v68 v69 v70 v71)).bn (ay x (.BU v43 v59 v65 v68 v69 v70 v71)).H=(ai x (.BU v43 v59 v65 v68 v69 v70 v71)).wp (cr W Q (ay x)):=by kernel_rfl
theorem IU (v43 v62:List Int) (v63 v64:List Int) (v86 v105:List Int) (v106 v107:List Int) (v108 v115:List Int):run (env cq (fun _=>none) false (fun _ _=>none)) cF (bz cn Q) W 100000 (ay x (.wU v43 v62 v63 v64 v86 v105 v106 v107 v108 v115)).fr.enter (ay x (.wU v43 v62 v63 v64 v86 v105 v106 v107 v108 v115)).bn (ay x (.wU v43 v62 v63 v64 v86 v105 v106 v107 v108 v115)).H=(ai x (.wU v43 v62 v63 v64 v86 v105 v106 v107 v108 v115)).wp (cr W Q (ay x)):=by kernel_rfl
theorem IT (v43 v56 v57:List Int):run (env cq (fun _=>none) false (fun _ _=>none)) cF (bz cn Q) W 100000 (ay x (.Af v43 v56 v57)).fr.enter (ay x (.Af v43 v56 v57)).bn (ay x (.Af v43 v56 v57)).H=(ai x (.Af v43 v56 v57)).wp (cr W Q (ay x)):=by kernel_rfl
theorem IS (v43:List Int) (v47 v53:Int) (v56 v57:List Int):run (env cq (fun _=>none) false (fun _ _=>none)) cF (bz cn Q) W 100000 (ay x (.BT v43 v47 v53 v56 v57)).fr.enter (ay x (.BT v43 v47 v53 v56 v57)).bn (ay x (.BT v43 v47 v53 v56 v57)).H=(ai x (.BT v43 v47 v53 v56 v57)).wp (cr W Q (ay x)):=by kernel_rfl
theorem IQ (v43 v56 v57:List Int):run (env cq (fun _=>none) false (fun _ _=>none)) cF (bz cn Q) W 100000 (ay x (.BS v43 v56 v57)).fr.enter (ay x (.BS v43 v56 v57)).bn (ay x (.BS v43 v56 v57)).H=(ai x (.BS v43 v56 v57)).wp (cr W Q (ay x)):=by kernel_rfl
theorem IP (v43 v56 v57:List Int):run (env cq (fun _=>none) false (fun _ _=>none)) cF (bz cn Q) W 100000 (ay x (.zu v43 v56 v57)).fr.enter (ay x (.zu v43 v56 v57)).bn (ay x (.zu v43 v56 v57)).H=(ai x (.zu v43 v56 v57)).wp (cr W Q (ay x)):=by kernel_rfl
theorem IN (v43:List Int) (v59 v65:Int) (v68 v69:List Int) (v70 v71:List Int):run (env cq (fun _=>none) false (fun _ _=>none)) cF (bz cn Q) W 100000 (ay x (.BR v43 v59 v65 v68 v69 v70 v71)).fr.enter (ay x (.BR v43 v59 v65 v68 v69 v70 v71)).bn (ay x (.BR v43 v59 v65 v68 v69 v70 v71)).H=(ai x (.BR v43 v59 v65 v68 v69 v70 v71)).wp (cr W Q (ay x)):=by kernel_rfl
theorem IM (v43 v62:List Int) (v63 v64:List Int) (v86 v105:List Int) (v106 v107:List Int) (v108 v115:List Int):run (env cq (fun _=>none) false (fun _ _=>none)) cF (bz cn Q) W 100000 (ay x (.BQ v43 v62 v63 v64 v86 v105 v106 v107 v108 v115)).fr.enter (ay x (.BQ v43 v62 v63 v64 v86 v105 v106 v107 v108 v115)).bn (ay x (.BQ v43 v62 v63 v64 v86 v105 v106 v107 v108 v115)).H=(ai x (.BQ v43 v62 v63 v64 v86 v105 v106 v107 v108 v115)).wp (cr W Q (ay x)):=by kernel_rfl
theorem IL (v43:List Int) (v59 v65:Int) (v68 v69:List Int) (v70 v71:List Int):run (env cq (fun _=>none) false (fun _ _=>none)) cF (bz cn Q) W 100000 (ay x (.BP v43 v59 v65 v68 v69 v70 v71)).fr.enter (ay x (.BP v43 v59 v65 v68 v69 v70 v71)).bn (ay x (.BP v43 v59 v65 v68 v69 v70 v71)).H=(ai x (.BP v43 v59 v65 v68 v69 v70 v71)).wp (cr W Q (ay x)):=by kernel_rfl
theorem IK (v43 v62:List Int) (v63 v64:List Int) (v86 v105:List Int) (v106 v107:List Int) (v108 v115:List Int):run (env cq (fun _=>none) false (fun _ _=>none)) cF (bz cn Q) W 100000 (ay x (.BO v43 v62 v63 v64 v86 v105 v106 v107 v108 v115)).fr.enter (ay x (.BO v43 v62 v63 v64 v86 v105 v106 v107 v108 v115)).bn (ay x (.BO v43 v62 v63 v64 v86 v105 v106 v107 v108 v115)).H=(ai x (.BO v43 v62 v63 v64 v86 v105 v106 v107 v108 v115)).wp (cr W Q (ay x)):=by kernel_rfl
theorem IJ (v43 v62:List Int) (v63 v64:List Int) (v86 v105:List Int) (v106 v107:List Int) (v108 v115:List Int):run (env cq (fun _=>none) false (fun _ _=>none)) cF (bz cn Q) W 100000 (ay x (.BN v43 v62 v63 v64 v86 v105 v106 v107 v108 v115)).fr.enter (ay x (.BN v43 v62 v63 v64 v86 v105 v106 v107 v108 v115)).bn (ay x (.BN v43 v62 v63 v64 v86 v105 v106 v107 v108 v115)).H=(ai x (.BN v43 v62 v63 v64 v86 v105 v106 v107 v108 v115)).wp (cr W Q (ay x)):=by kernel_rfl
theorem II (v43 v62:List Int) (v63 v64:List Int) (v86 v105:List Int) (v106 v107:List Int) (v108 v115:List Int):run (env cq (fun _=>none) false (fun _ _=>none)) cF (bz cn Q) W 100000 (ay x (.BM v43 v62 v63 v64 v86 v105 v106 v107 v108 v115)).fr.enter (ay x (.BM v43 v62 v63 v64 v86 v105 v106 v107 v108 v115)).bn (ay x (.BM v43 v62 v63 v64 v86 v105 v106 v107 v108 v115)).H=(ai x (.BM v43 v62 v63 v64 v86 v105 v106 v107 v108 v115)).wp (cr W Q (ay x)):=by kernel_rfl
theorem IH (v43 v50:List Int) (v72 v91:List Int) (v92 v93:List Int) (v94 v113:List Int) (v114 v115:List Int):run (env cq (fun _=>none) false (fun _ _=>none)) cF (bz cn Q) W 100000 (ay x (.BL v43 v50 v72 v91 v92 v93 v94 v113 v114 v115)).fr.enter (ay x (.BL v43 v50 v72 v91 v92 v93 v94 v113 v114 v115)).bn (ay x (.BL v43 v50 v72 v91 v92 v93 v94 v113 v114 v115)).H=(ai x (.BL v43 v50 v72 v91 v92 v93 v94 v113 v114 v115)).wp (cr W Q (ay x)):=by kernel_rfl
end
theorem Ns (W:cB) (Q:ck→Prop) (x:DI):∀ j:Ql,run (env cq (fun _=>none) false (fun _ _=>none)) cF (bz cn Q) W 100000 (ay x j).fr.enter (ay x j).bn (ay x j).H=(ai x j).wp (cr W Q (ay x))
 | .h0=>Ll W Q x
 | .h1 v43 v59 v65 v68 v69 v70 v71=>Lk W Q x v43 v59 v65 v68 v69 v70 v71
 | .h2 v43 v62 v63 v64 v86 v105 v106 v107 v108 v115=>Lj W Q x v43 v62 v63 v64 v86 v105 v106 v107 v108 v115
 | .h3 v43 v50=>Li W Q x v43 v50
 | .h4 v43 v56 v57=>Lh W Q x v43 v56 v57
 | .h5 v43 v47 v50=>Lg W Q x v43 v47 v50
 | .h6 v43 v47 v53 v56 v57=>Lf W Q x v43 v47 v53 v56 v57
 | .h7 v43 v50=>Le W Q x v43 v50
 | .h8 v43 v50=>Ld W Q x v43 v50
 | .h9 v43 v56 v57=>Lc W Q x v43 v56 v57
 | .BV v43 v50=>I3 W Q x v43 v50
 | .vm v43 v49 v50=>I2 W Q x v43 v49 v50
 | .lC v43 v50=>I1 W Q x v43 v50
 | .kz v43 v56 v57=>I0 W Q x v43 v56 v57
 | .jM v43 v50=>IZ W Q x v43 v50
 | .gF v43 v50=>IY W Q x v43 v50
 | .gJ v43 v50=>IX W Q x v43 v50
 | .lB=>IW W Q x
 | .BU v43 v59 v65 v68 v69 v70 v71=>IV W Q x v43 v59 v65 v68 v69 v70 v71
 | .wU v43 v62 v63 v64 v86 v105 v106 v107 v108 v115=>IU W Q x v43 v62 v63 v64 v86 v105 v106 v107 v108 v115
 | .Af v43 v56 v57=>IT W Q x v43 v56 v57
 | .BT v43 v47 v53 v56 v57=>IS W Q x v43 v47 v53 v56 v57
 | .BS v43 v56 v57=>IQ W Q x v43 v56 v57
 | .zu v43 v56 v57=>IP W Q x v43 v56 v57
 | .BR v43 v59 v65 v68 v69 v70 v71=>IN W Q x v43 v59 v65 v68 v69 v70 v71
 | .BQ v43 v62 v63 v64 v86 v105 v106 v107 v108 v115=>IM W Q x v43 v62 v63 v64 v86 v105 v106 v107 v108 v115
 | .BP v43 v59 v65 v68 v69 v70 v71=>IL W Q x v43 v59 v65 v68 v69 v70 v71
 | .BO v43 v62 v63 v64 v86 v105 v106 v107 v108 v115=>IK W Q x v43 v62 v63 v64 v86 v105 v106 v107 v108 v115
 | .BN v43 v62 v63 v64 v86 v105 v106 v107 v108 v115=>IJ W Q x v43 v62 v63 v64 v86 v105 v106 v107 v108 v115
 | .BM v43 v62 v63 v64 v86 v105 v106 v107 v108 v115=>II W Q x v43 v62 v63 v64 v86 v105 v106 v107 v108 v115
 | .BL v43 v50 v72 v91 v92 v93 v94 v113 v114 v115=>IH W Q x v43 v50 v72 v91 v92 v93 v94 v113 v114 v115
theorem UG:ah av 29 cn:=ah.env rfl (fun _ _ h=>h) (dc (E:=(env cq (fun _=>none) false (fun _ _=>none))) (sp:=cn) (valid _ _ _ _) ⟨fun f sp h=>ah.env rfl (fun _ _ h=>h) (Hu f sp h),fun f ps h=>nomatch h⟩ (fn:=Tryz.f29) (c:=(ag Tryz.f29)) (by kernel_rfl) (by kernel_rfl) oX ai ay Rr Ns (fun _ h=>dn h))
end Go.bM.RL
end
