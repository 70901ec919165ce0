/- Own layer: facts of the program, reckoned. Of the program; no condition. -/
import Derived.Test.YtkmkbndcekklmaaGreatDoorPD
import Derived.Test.YtkmkbndcekklmaaGreatDoorPF
import Derived.Test.YtkmkbndcekklmaaGreatDoorChecked
import Derived.Test.YtkmkbndcekklmaaGreatDoorPE
set_option linter.unusedSimpArgs false
set_option linter.unusedVariables false
namespace Go.Proofs.YtkmkbndcekklmaaGreatDoor
open Go Go.Sx Go.Proofs Tryz
def zs:TypeId→AV
 | 3=> .int .i64 0
 | 4=> .bool false
 | 5=> .int .u8 0
 | 9=> .str []
 | 22=> .nilsl
 | 25=> .agg [.nilsl,.nilsl,.nilsl,.nilsl,.int .i64 0,.int .i64 0,.int .i64 0,.bool false,.str [],.nilsl]
 | 30=> .agg [.nilsl]
 | 32=> .agg [.agg [.nilsl,.nilsl,.nilsl,.nilsl,.int .i64 0,.int .i64 0,.int .i64 0,.bool false,.str [],.nilsl],.agg [.nilsl,.nilsl,.nilsl,.nilsl,.int .i64 0,.int .i64 0,.int .i64 0,.bool false,.str [],.nilsl]]
 | 36=> .agg [.nilsl,.nilsl]
 | 41=> .agg [.nilsl,.nilsl,.nilsl]
 | 42=> .agg [.int .i64 0,.int .i64 0,.int .i64 0,.int .i64 0,.int .i64 0,.int .i64 0]
 | 48=> .agg [.nilsl,.nilsl,.bool false]
 | 54=> .agg [.nilsl,.int .i64 0,.int .i64 0,.nilsl,.nilsl]
 | 71=> .agg [.agg [.nilsl,.nilsl,.nilsl,.nilsl,.int .i64 0,.int .i64 0,.int .i64 0,.bool false,.str [],.nilsl],.nilsl,.nilsl]
 | 96=> .agg [.nilsl,.nilsl]
 | 103=> .agg [.int .i64 0,.nilsl,.int .i64 0,.nilsl]
 | 108=> .agg [.str [],.int .i64 0,.int .i64 0]
 | 112=> .nilf
 | 121=> .agg [.int .i64 0,.nilsl]
 | 129=> .agg [.bool false,.int .i64 0,.nilsl]
 | 143=> .agg [.str [],.nilsl,.str [],.str [],.int .i64 0]
 | 150=> .agg [.int .i64 0]
 | 153=> .agg [.int .i64 0,.int .i64 0,.str [],.int .i64 0,.nilsl]
 | 156=> .agg [.agg [.nilsl],.str [],.int .i64 0,.agg [.int .i64 0,.int .i64 0,.str [],.int .i64 0,.nilsl],.nilsl,.int .i64 0]
 | 183=> .agg [.int .u8 0,.str [],.int .i64 0,.int .i64 0]
 | 185=> .agg [.str [],.agg [.nilsl],.agg [.int .u8 0,.str [],.int .i64 0,.int .i64 0],.int .i64 0,.int .i64 0,.int .i64 0]
 | 192=> .agg [.str [],.str [],.str [],.str [],.str [],.str [],.str [],.str [],.str []]
 | 197=> .agg [.int .u32 0,.int .u32 0,.int .u32 0,.int .u32 0,.int .u32 0,.int .u32 0,.int .u32 0,.int .u32 0,.int .u32 0,.int .u32 0,.int .u32 0,.int .u32 0,.int .u32 0,.int .u32 0,.int .u32 0,.int .u32 0]
 | _=> .junk
def zo(t:TypeId):AV:=if t=4294967295 then .bool true else zs t
theorem zi_3:ZW prog 3 (.int .i64 0):=ZH rfl (.int .i64 0) (by kernel_rfl) rfl
theorem zi_4:ZW prog 4 (.bool false):=ZH rfl (.bool false) (by kernel_rfl) rfl
theorem zi_5:ZW prog 5 (.int .u8 0):=ZH rfl (.int .u8 0) (by kernel_rfl) rfl
theorem zi_9:ZW prog 9 (.str []):=ZH rfl (.string ⟨#[]⟩) (by kernel_rfl) rfl
theorem zi_22:ZW prog 22 (.nilsl):=ZH rfl (.slice none 0 0) (by kernel_rfl) rfl
theorem zi_25:ZW prog 25 (.agg [.nilsl,.nilsl,.nilsl,.nilsl,.int .i64 0,.int .i64 0,.int .i64 0,.bool false,.str [],.nilsl]):=ZH rfl (.agg #[.slice none 0 0,.slice none 0 0,.slice none 0 0,.slice none 0 0,.int .i64 0,.int .i64 0,.int .i64 0,.bool false,.string ⟨#[]⟩,.slice none 0 0]) (by kernel_rfl) rfl
theorem zi_30:ZW prog 30 (.agg [.nilsl]):=ZH rfl (.agg #[.slice none 0 0]) (by kernel_rfl) rfl
theorem zi_32:ZW prog 32 (.agg [.agg [.nilsl,.nilsl,.nilsl,.nilsl,.int .i64 0,.int .i64 0,.int .i64 0,.bool false,.str [],.nilsl],.agg [.nilsl,.nilsl,.nilsl,.nilsl,.int .i64 0,.int .i64 0,.int .i64 0,.bool false,.str [],.nilsl]]):=ZH rfl (.agg #[.slice none 0 0,.slice none 0 0,.slice none 0 0,.slice none 0 0,.int .i64 0,.int .i64 0,.int .i64 0,.bool false,.string ⟨#[]⟩,.slice none 0 0,.slice none 0 0,.slice none 0 0,.slice none 0 0,.slice none 0 0,.int .i64 0,.int .i64 0,.int .i64 0,.bool false,.string ⟨#[]⟩,.slice none 0 0]) (by kernel_rfl) rfl
theorem zi_36:ZW prog 36 (.agg [.nilsl,.nilsl]):=ZH rfl (.agg #[.slice none 0 0,.slice none 0 0]) (by kernel_rfl) rfl
theorem zi_41:ZW prog 41 (.agg [.nilsl,.nilsl,.nilsl]):=ZH rfl (.agg #[.slice none 0 0,.slice none 0 0,.slice none 0 0]) (by kernel_rfl) rfl
theorem zi_42:ZW prog 42 (.agg [.int .i64 0,.int .i64 0,.int .i64 0,.int .i64 0,.int .i64 0,.int .i64 0]):=ZH rfl (.agg #[.int .i64 0,.int .i64 0,.int .i64 0,.int .i64 0,.int .i64 0,.int .i64 0]) (by kernel_rfl) rfl
theorem zi_48:ZW prog 48 (.agg [.nilsl,.nilsl,.bool false]):=ZH rfl (.agg #[.slice none 0 0,.slice none 0 0,.bool false]) (by kernel_rfl) rfl
theorem zi_54:ZW prog 54 (.agg [.nilsl,.int .i64 0,.int .i64 0,.nilsl,.nilsl]):=ZH rfl (.agg #[.slice none 0 0,.int .i64 0,.int .i64 0,.slice none 0 0,.slice none 0 0]) (by kernel_rfl) rfl
theorem zi_71:ZW prog 71 (.agg [.agg [.nilsl,.nilsl,.nilsl,.nilsl,.int .i64 0,.int .i64 0,.int .i64 0,.bool false,.str [],.nilsl],.nilsl,.nilsl]):=ZH rfl (.agg #[.slice none 0 0,.slice none 0 0,.slice none 0 0,.slice none 0 0,.int .i64 0,.int .i64 0,.int .i64 0,.bool false,.string ⟨#[]⟩,.slice none 0 0,.slice none 0 0,.slice none 0 0]) (by kernel_rfl) rfl
theorem zi_96:ZW prog 96 (.agg [.nilsl,.nilsl]):=ZH rfl (.agg #[.slice none 0 0,.slice none 0 0]) (by kernel_rfl) rfl
theorem zi_103:ZW prog 103 (.agg [.int .i64 0,.nilsl,.int .i64 0,.nilsl]):=ZH rfl (.agg #[.int .i64 0,.slice none 0 0,.int .i64 0,.slice none 0 0]) (by kernel_rfl) rfl
theorem zi_108:ZW prog 108 (.agg [.str [],.int .i64 0,.int .i64 0]):=ZH rfl (.agg #[.string ⟨#[]⟩,.int .i64 0,.int .i64 0]) (by kernel_rfl) rfl
theorem zi_112:ZW prog 112 (.nilf):=ZH rfl (.nilFunc) (by kernel_rfl) rfl
theorem zi_121:ZW prog 121 (.agg [.int .i64 0,.nilsl]):=ZH rfl (.agg #[.int .i64 0,.slice none 0 0]) (by kernel_rfl) rfl
theorem zi_129:ZW prog 129 (.agg [.bool false,.int .i64 0,.nilsl]):=ZH rfl (.agg #[.bool false,.int .i64 0,.slice none 0 0]) (by kernel_rfl) rfl
theorem zi_143:ZW prog 143 (.agg [.str [],.nilsl,.str [],.str [],.int .i64 0]):=ZH rfl (.agg #[.string ⟨#[]⟩,.slice none 0 0,.string ⟨#[]⟩,.string ⟨#[]⟩,.int .i64 0]) (by kernel_rfl) rfl
theorem zi_150:ZW prog 150 (.agg [.int .i64 0]):=ZH rfl (.agg #[.int .i64 0]) (by kernel_rfl) rfl
theorem zi_153:ZW prog 153 (.agg [.int .i64 0,.int .i64 0,.str [],.int .i64 0,.nilsl]):=ZH rfl (.agg #[.int .i64 0,.int .i64 0,.string ⟨#[]⟩,.int .i64 0,.slice none 0 0]) (by kernel_rfl) rfl
theorem zi_156:ZW prog 156 (.agg [.agg [.nilsl],.str [],.int .i64 0,.agg [.int .i64 0,.int .i64 0,.str [],.int .i64 0,.nilsl],.nilsl,.int .i64 0]):=ZH rfl (.agg #[.slice none 0 0,.string ⟨#[]⟩,.int .i64 0,.int .i64 0,.int .i64 0,.string ⟨#[]⟩,.int .i64 0,.slice none 0 0,.slice none 0 0,.int .i64 0]) (by kernel_rfl) rfl
theorem zi_183:ZW prog 183 (.agg [.int .u8 0,.str [],.int .i64 0,.int .i64 0]):=ZH rfl (.agg #[.int .u8 0,.string ⟨#[]⟩,.int .i64 0,.int .i64 0]) (by kernel_rfl) rfl
theorem zi_185:ZW prog 185 (.agg [.str [],.agg [.nilsl],.agg [.int .u8 0,.str [],.int .i64 0,.int .i64 0],.int .i64 0,.int .i64 0,.int .i64 0]):=ZH rfl (.agg #[.string ⟨#[]⟩,.slice none 0 0,.int .u8 0,.string ⟨#[]⟩,.int .i64 0,.int .i64 0,.int .i64 0,.int .i64 0,.int .i64 0]) (by kernel_rfl) rfl
theorem zi_192:ZW prog 192 (.agg [.str [],.str [],.str [],.str [],.str [],.str [],.str [],.str [],.str []]):=ZH rfl (.agg #[.string ⟨#[]⟩,.string ⟨#[]⟩,.string ⟨#[]⟩,.string ⟨#[]⟩,.string ⟨#[]⟩,.string ⟨#[]⟩,.string ⟨#[]⟩,.string ⟨#[]⟩,.string ⟨#[]⟩]) (by kernel_rfl) rfl
theorem zi_197:ZW prog 197 (.agg [.int .u32 0,.int .u32 0,.int .u32 0,.int .u32 0,.int .u32 0,.int .u32 0,.int .u32 0,.int .u32 0,.int .u32 0,.int .u32 0,.int .u32 0,.int .u32 0,.int .u32 0,.int .u32 0,.int .u32 0,.int .u32 0]):=ZH rfl (.agg #[.int .u32 0,.int .u32 0,.int .u32 0,.int .u32 0,.int .u32 0,.int .u32 0,.int .u32 0,.int .u32 0,.int .u32 0,.int .u32 0,.int .u32 0,.int .u32 0,.int .u32 0,.int .u32 0,.int .u32 0,.int .u32 0]) (by kernel_rfl) rfl
theorem Qa:tMth prog 52 "Next" =some 187:=by kernel_rfl
theorem tF0:ZX prog 3=true∧tAgg prog 3=false∧tSz prog 3=some 1∧tInt prog 3=some .i64∧ZX prog 4=true∧tAgg prog 4=false∧tSz prog 4=some 1∧Ku prog 4=true∧ZX prog 5=true∧tAgg prog 5=false∧tSz prog 5=some 1∧tInt prog 5=some .u8∧ZX prog 9=true∧tAgg prog 9=false∧tSz prog 9=some 1∧XQ prog 9=true∧ZX prog 20=true∧tAgg prog 20=false∧tSz prog 20=some 1∧tIsIf prog 20=true∧Nw prog 20=true∧ZX prog 22=true∧tAgg prog 22=false∧tSz prog 22=some 1∧WI prog 22=some 1∧tEl prog 22=some (1,1)∧Xt prog 22=true∧XQ prog 22=false∧Wo prog 22=true∧tElT prog 22=some 5∧ZX prog 23=true∧tAgg prog 23=false∧tSz prog 23=some 1∧WI prog 23=some 1∧tEl prog 23=some (1,8)∧Xt prog 23=true∧Wo prog 23=false∧ZX prog 25=true∧tAgg prog 25=true∧tSz prog 25=some 10:=by(repeat' refine And.intro ?_ ?_)<;>kernel_rfl
theorem tF1:tFld prog 25 0=some (0,1)∧tPlc prog 25 0=some (0,1)∧ZC prog 25 0=false∧ZB prog 25 0=true∧tFld prog 25 1=some (1,1)∧tPlc prog 25 1=some (1,1)∧ZC prog 25 1=false∧ZB prog 25 1=true∧tFld prog 25 2=some (2,1)∧tPlc prog 25 2=some (2,1)∧ZC prog 25 2=false∧ZB prog 25 2=true∧tFld prog 25 3=some (3,1)∧tPlc prog 25 3=some (3,1)∧ZC prog 25 3=false∧ZB prog 25 3=true∧tFld prog 25 4=some (4,1)∧tPlc prog 25 4=some (4,1)∧ZC prog 25 4=false∧ZB prog 25 4=true∧tFld prog 25 5=some (5,1)∧tPlc prog 25 5=some (5,1)∧ZC prog 25 5=false∧ZB prog 25 5=true∧tFld prog 25 6=some (6,1)∧tPlc prog 25 6=some (6,1)∧ZC prog 25 6=false∧ZB prog 25 6=true∧tFld prog 25 7=some (7,1)∧tPlc prog 25 7=some (7,1)∧ZC prog 25 7=false∧ZB prog 25 7=true∧tFld prog 25 8=some (8,1)∧tPlc prog 25 8=some (8,1)∧ZC prog 25 8=false∧ZB prog 25 8=true∧tFld prog 25 9=some (9,1)∧tPlc prog 25 9=some (9,1)∧ZC prog 25 9=false∧ZB prog 25 9=true:=by(repeat' refine And.intro ?_ ?_)<;>kernel_rfl
theorem tF2:XB prog 25=true∧ZX prog 26=true∧tAgg prog 26=false∧tSz prog 26=some 1∧WI prog 26=some 2∧tEl prog 26=some (2,48)∧Xt prog 26=true∧Wo prog 26=false∧ZX prog 28=true∧tAgg prog 28=false∧tSz prog 28=some 1∧WI prog 28=some 3∧tEl prog 28=some (3,32)∧Xt prog 28=true∧Wo prog 28=false∧ZX prog 30=true∧tAgg prog 30=true∧tSz prog 30=some 1∧tFld prog 30 0=some (0,1)∧tPlc prog 30 0=some (0,1)∧ZC prog 30 0=false∧ZB prog 30 0=true∧XB prog 30=true∧ZX prog 32=true∧tAgg prog 32=true∧tSz prog 32=some 20∧tAry prog 32=some (2,10)∧tArr prog 32=some (2,10,true)∧tPlc prog 32 0=some (0,10)∧tPlc prog 32 1=some (10,10)∧XB prog 32=true∧Uy.tArrS prog 32=true∧ZX prog 34=true∧tAgg prog 34=false∧tSz prog 34=some 1∧WI prog 34=some 1∧tEl prog 34=some (1,24)∧Xt prog 34=true∧Wo prog 34=false∧ZX prog 36=true:=by(repeat' refine And.intro ?_ ?_)<;>kernel_rfl
theorem tF3:tAgg prog 36=true∧tSz prog 36=some 2∧tFld prog 36 0=some (0,1)∧tPlc prog 36 0=some (0,1)∧ZC prog 36 0=false∧ZB prog 36 0=true∧tFld prog 36 1=some (1,1)∧tPlc prog 36 1=some (1,1)∧ZC prog 36 1=false∧ZB prog 36 1=true∧XB prog 36=true∧ZX prog 38=true∧tAgg prog 38=false∧tSz prog 38=some 1∧WI prog 38=some 1∧tEl prog 38=some (1,24)∧Xt prog 38=true∧Wo prog 38=false∧ZX prog 39=true∧tAgg prog 39=false∧tSz prog 39=some 1∧WI prog 39=some 1∧tEl prog 39=some (1,24)∧Xt prog 39=true∧Wo prog 39=false∧ZX prog 41=true∧tAgg prog 41=true∧tSz prog 41=some 3∧tFld prog 41 0=some (0,1)∧tPlc prog 41 0=some (0,1)∧ZC prog 41 0=false∧ZB prog 41 0=true∧tFld prog 41 1=some (1,1)∧tPlc prog 41 1=some (1,1)∧ZC prog 41 1=false∧ZB prog 41 1=true∧tFld prog 41 2=some (2,1)∧tPlc prog 41 2=some (2,1)∧ZC prog 41 2=false∧ZB prog 41 2=true:=by(repeat' refine And.intro ?_ ?_)<;>kernel_rfl
theorem tF4:XB prog 41=true∧ZX prog 42=true∧tAgg prog 42=true∧tSz prog 42=some 6∧tAry prog 42=some (6,1)∧tArr prog 42=some (6,1,false)∧tPlc prog 42 0=some (0,1)∧tPlc prog 42 1=some (1,1)∧tPlc prog 42 2=some (2,1)∧tPlc prog 42 3=some (3,1)∧tPlc prog 42 4=some (4,1)∧tPlc prog 42 5=some (5,1)∧XB prog 42=true∧Uy.tArrS prog 42=true∧ZX prog 48=true∧tAgg prog 48=true∧tSz prog 48=some 3∧tFld prog 48 0=some (0,1)∧tPlc prog 48 0=some (0,1)∧ZC prog 48 0=false∧ZB prog 48 0=true∧tFld prog 48 1=some (1,1)∧tPlc prog 48 1=some (1,1)∧ZC prog 48 1=false∧ZB prog 48 1=true∧tFld prog 48 2=some (2,1)∧tPlc prog 48 2=some (2,1)∧ZC prog 48 2=false∧ZB prog 48 2=true∧XB prog 48=true∧ZX prog 49=true∧tAgg prog 49=false∧tSz prog 49=some 1∧tInt prog 49=some .i64∧ZX prog 52=true∧tAgg prog 52=false∧tSz prog 52=some 1∧Qb prog 52=true∧QU prog 52=true∧ZX prog 54=true:=by(repeat' refine And.intro ?_ ?_)<;>kernel_rfl
theorem tF5:tAgg prog 54=true∧tSz prog 54=some 5∧tFld prog 54 0=some (0,1)∧tPlc prog 54 0=some (0,1)∧ZC prog 54 0=false∧ZB prog 54 0=true∧tFld prog 54 1=some (1,1)∧tPlc prog 54 1=some (1,1)∧ZC prog 54 1=false∧ZB prog 54 1=true∧tFld prog 54 2=some (2,1)∧tPlc prog 54 2=some (2,1)∧ZC prog 54 2=false∧ZB prog 54 2=true∧tFld prog 54 3=some (3,1)∧tPlc prog 54 3=some (3,1)∧ZC prog 54 3=false∧ZB prog 54 3=true∧tFld prog 54 4=some (4,1)∧tPlc prog 54 4=some (4,1)∧ZC prog 54 4=false∧ZB prog 54 4=true∧XB prog 54=true∧ZX prog 71=true∧tAgg prog 71=true∧tSz prog 71=some 12∧tFld prog 71 0=some (0,10)∧tPlc prog 71 0=some (0,10)∧ZC prog 71 0=true∧ZB prog 71 0=true∧tFld prog 71 1=some (10,1)∧tPlc prog 71 1=some (10,1)∧ZC prog 71 1=false∧ZB prog 71 1=true∧tFld prog 71 2=some (11,1)∧tPlc prog 71 2=some (11,1)∧ZC prog 71 2=false∧ZB prog 71 2=true∧XB prog 71=true∧ZX prog 81=true:=by(repeat' refine And.intro ?_ ?_)<;>kernel_rfl
theorem tF6:tAgg prog 81=false∧tSz prog 81=some 1∧WI prog 81=some 1∧tEl prog 81=some (1,16)∧Xt prog 81=true∧Wo prog 81=false∧ZX prog 94=true∧tAgg prog 94=false∧tSz prog 94=some 1∧WI prog 94=some 4∧tEl prog 94=some (4,64)∧Xt prog 94=true∧Wo prog 94=false∧ZX prog 96=true∧tAgg prog 96=true∧tSz prog 96=some 2∧tFld prog 96 0=some (0,1)∧tPlc prog 96 0=some (0,1)∧ZC prog 96 0=false∧ZB prog 96 0=true∧tFld prog 96 1=some (1,1)∧tPlc prog 96 1=some (1,1)∧ZC prog 96 1=false∧ZB prog 96 1=true∧XB prog 96=true∧ZX prog 103=true∧tAgg prog 103=true∧tSz prog 103=some 4∧tFld prog 103 0=some (0,1)∧tPlc prog 103 0=some (0,1)∧ZC prog 103 0=false∧ZB prog 103 0=true∧tFld prog 103 1=some (1,1)∧tPlc prog 103 1=some (1,1)∧ZC prog 103 1=false∧ZB prog 103 1=true∧tFld prog 103 2=some (2,1)∧tPlc prog 103 2=some (2,1)∧ZC prog 103 2=false∧ZB prog 103 2=true:=by(repeat' refine And.intro ?_ ?_)<;>kernel_rfl
theorem tF7:tFld prog 103 3=some (3,1)∧tPlc prog 103 3=some (3,1)∧ZC prog 103 3=false∧ZB prog 103 3=true∧XB prog 103=true∧ZX prog 108=true∧tAgg prog 108=true∧tSz prog 108=some 3∧tFld prog 108 0=some (0,1)∧tPlc prog 108 0=some (0,1)∧ZC prog 108 0=false∧ZB prog 108 0=true∧tFld prog 108 1=some (1,1)∧tPlc prog 108 1=some (1,1)∧ZC prog 108 1=false∧ZB prog 108 1=true∧tFld prog 108 2=some (2,1)∧tPlc prog 108 2=some (2,1)∧ZC prog 108 2=false∧ZB prog 108 2=true∧XB prog 108=true∧ZX prog 110=true∧tAgg prog 110=false∧tSz prog 110=some 1∧tIsIf prog 110=true∧ZX prog 112=true∧tAgg prog 112=false∧tSz prog 112=some 1∧Mw prog 112=true∧ZX prog 121=true∧tAgg prog 121=true∧tSz prog 121=some 2∧tFld prog 121 0=some (0,1)∧tPlc prog 121 0=some (0,1)∧ZC prog 121 0=false∧ZB prog 121 0=true∧tFld prog 121 1=some (1,1)∧tPlc prog 121 1=some (1,1)∧ZC prog 121 1=false∧ZB prog 121 1=true:=by(repeat' refine And.intro ?_ ?_)<;>kernel_rfl
theorem tF8:XB prog 121=true∧ZX prog 129=true∧tAgg prog 129=true∧tSz prog 129=some 3∧tFld prog 129 0=some (0,1)∧tPlc prog 129 0=some (0,1)∧ZC prog 129 0=false∧ZB prog 129 0=true∧tFld prog 129 1=some (1,1)∧tPlc prog 129 1=some (1,1)∧ZC prog 129 1=false∧ZB prog 129 1=true∧tFld prog 129 2=some (2,1)∧tPlc prog 129 2=some (2,1)∧ZC prog 129 2=false∧ZB prog 129 2=true∧XB prog 129=true∧ZX prog 141=true∧tAgg prog 141=false∧tSz prog 141=some 1∧WI prog 141=some 5∧tEl prog 141=some (5,80)∧Xt prog 141=true∧Wo prog 141=false∧ZX prog 143=true∧tAgg prog 143=true∧tSz prog 143=some 5∧tFld prog 143 0=some (0,1)∧tPlc prog 143 0=some (0,1)∧ZC prog 143 0=false∧ZB prog 143 0=true∧tFld prog 143 1=some (1,1)∧tPlc prog 143 1=some (1,1)∧ZC prog 143 1=false∧ZB prog 143 1=true∧tFld prog 143 2=some (2,1)∧tPlc prog 143 2=some (2,1)∧ZC prog 143 2=false∧ZB prog 143 2=true∧tFld prog 143 3=some (3,1):=by(repeat' refine And.intro ?_ ?_)<;>kernel_rfl
theorem tF9:tPlc prog 143 3=some (3,1)∧ZC prog 143 3=false∧ZB prog 143 3=true∧tFld prog 143 4=some (4,1)∧tPlc prog 143 4=some (4,1)∧ZC prog 143 4=false∧ZB prog 143 4=true∧XB prog 143=true∧ZX prog 150=true∧tAgg prog 150=true∧tSz prog 150=some 1∧tFld prog 150 0=some (0,1)∧tPlc prog 150 0=some (0,1)∧ZC prog 150 0=false∧ZB prog 150 0=true∧XB prog 150=true∧QU prog 150=true∧ZX prog 153=true∧tAgg prog 153=true∧tSz prog 153=some 5∧tFld prog 153 0=some (0,1)∧tPlc prog 153 0=some (0,1)∧ZC prog 153 0=false∧ZB prog 153 0=true∧tFld prog 153 1=some (1,1)∧tPlc prog 153 1=some (1,1)∧ZC prog 153 1=false∧ZB prog 153 1=true∧tFld prog 153 2=some (2,1)∧tPlc prog 153 2=some (2,1)∧ZC prog 153 2=false∧ZB prog 153 2=true∧tFld prog 153 3=some (3,1)∧tPlc prog 153 3=some (3,1)∧ZC prog 153 3=false∧ZB prog 153 3=true∧tFld prog 153 4=some (4,1)∧tPlc prog 153 4=some (4,1)∧ZC prog 153 4=false∧ZB prog 153 4=true:=by(repeat' refine And.intro ?_ ?_)<;>kernel_rfl
theorem tF10:XB prog 153=true∧ZX prog 154=true∧tAgg prog 154=false∧tSz prog 154=some 1∧WI prog 154=some 5∧tEl prog 154=some (5,64)∧Xt prog 154=true∧Wo prog 154=false∧ZX prog 156=true∧tAgg prog 156=true∧tSz prog 156=some 10∧tFld prog 156 0=some (0,1)∧tPlc prog 156 0=some (0,1)∧ZC prog 156 0=true∧ZB prog 156 0=true∧tFld prog 156 1=some (1,1)∧tPlc prog 156 1=some (1,1)∧ZC prog 156 1=false∧ZB prog 156 1=true∧tFld prog 156 2=some (2,1)∧tPlc prog 156 2=some (2,1)∧ZC prog 156 2=false∧ZB prog 156 2=true∧tFld prog 156 3=some (3,5)∧tPlc prog 156 3=some (3,5)∧ZC prog 156 3=true∧ZB prog 156 3=true∧tFld prog 156 4=some (8,1)∧tPlc prog 156 4=some (8,1)∧ZC prog 156 4=false∧ZB prog 156 4=true∧tFld prog 156 5=some (9,1)∧tPlc prog 156 5=some (9,1)∧ZC prog 156 5=false∧ZB prog 156 5=true∧XB prog 156=true∧ZX prog 160=true∧tAgg prog 160=false∧tSz prog 160=some 1∧tInt prog 160=some .u64:=by(repeat' refine And.intro ?_ ?_)<;>kernel_rfl
theorem tF11:ZX prog 163=true∧tAgg prog 163=false∧tSz prog 163=some 1∧tInt prog 163=some .u32∧ZX prog 183=true∧tAgg prog 183=true∧tSz prog 183=some 4∧tFld prog 183 0=some (0,1)∧tPlc prog 183 0=some (0,1)∧ZC prog 183 0=false∧ZB prog 183 0=true∧tFld prog 183 1=some (1,1)∧tPlc prog 183 1=some (1,1)∧ZC prog 183 1=false∧ZB prog 183 1=true∧tFld prog 183 2=some (2,1)∧tPlc prog 183 2=some (2,1)∧ZC prog 183 2=false∧ZB prog 183 2=true∧tFld prog 183 3=some (3,1)∧tPlc prog 183 3=some (3,1)∧ZC prog 183 3=false∧ZB prog 183 3=true∧XB prog 183=true∧ZX prog 185=true∧tAgg prog 185=true∧tSz prog 185=some 9∧tFld prog 185 0=some (0,1)∧tPlc prog 185 0=some (0,1)∧ZC prog 185 0=false∧ZB prog 185 0=true∧tFld prog 185 1=some (1,1)∧tPlc prog 185 1=some (1,1)∧ZC prog 185 1=true∧ZB prog 185 1=true∧tFld prog 185 2=some (2,4)∧tPlc prog 185 2=some (2,4)∧ZC prog 185 2=true∧ZB prog 185 2=true∧tFld prog 185 3=some (6,1):=by(repeat' refine And.intro ?_ ?_)<;>kernel_rfl
theorem tF12:tPlc prog 185 3=some (6,1)∧ZC prog 185 3=false∧ZB prog 185 3=true∧tFld prog 185 4=some (7,1)∧tPlc prog 185 4=some (7,1)∧ZC prog 185 4=false∧ZB prog 185 4=true∧tFld prog 185 5=some (8,1)∧tPlc prog 185 5=some (8,1)∧ZC prog 185 5=false∧ZB prog 185 5=true∧XB prog 185=true∧ZX prog 192=true∧tAgg prog 192=true∧tSz prog 192=some 9∧tAry prog 192=some (9,1)∧tArr prog 192=some (9,1,false)∧tPlc prog 192 0=some (0,1)∧tPlc prog 192 1=some (1,1)∧tPlc prog 192 2=some (2,1)∧tPlc prog 192 3=some (3,1)∧tPlc prog 192 4=some (4,1)∧tPlc prog 192 5=some (5,1)∧tPlc prog 192 6=some (6,1)∧tPlc prog 192 7=some (7,1)∧tPlc prog 192 8=some (8,1)∧XB prog 192=true∧Uy.tArrS prog 192=true∧ZX prog 197=true∧tAgg prog 197=true∧tSz prog 197=some 16∧tAry prog 197=some (16,1)∧tArr prog 197=some (16,1,false)∧tPlc prog 197 0=some (0,1)∧tPlc prog 197 1=some (1,1)∧tPlc prog 197 2=some (2,1)∧tPlc prog 197 3=some (3,1)∧tPlc prog 197 4=some (4,1)∧tPlc prog 197 5=some (5,1)∧tPlc prog 197 6=some (6,1):=by(repeat' refine And.intro ?_ ?_)<;>kernel_rfl
theorem tF13:tPlc prog 197 7=some (7,1)∧tPlc prog 197 8=some (8,1)∧tPlc prog 197 9=some (9,1)∧tPlc prog 197 10=some (10,1)∧tPlc prog 197 11=some (11,1)∧tPlc prog 197 12=some (12,1)∧tPlc prog 197 13=some (13,1)∧tPlc prog 197 14=some (14,1)∧tPlc prog 197 15=some (15,1)∧XB prog 197=true∧Uy.tArrS prog 197=true:=by(repeat' refine And.intro ?_ ?_)<;>kernel_rfl
theorem zF0:zs 4294967295= .junk∧zo 4294967295= .bool true∧zs 3= .int .i64 0∧zo 3=zs 3∧zs 4= .bool false∧zo 4=zs 4∧zs 5= .int .u8 0∧zo 5=zs 5∧zs 9= .str []∧zo 9=zs 9∧zs 22= .nilsl∧zo 22=zs 22∧zs 25= .agg [.nilsl,.nilsl,.nilsl,.nilsl,.int .i64 0,.int .i64 0,.int .i64 0,.bool false,.str [],.nilsl]∧zo 25=zs 25∧zs 30= .agg [.nilsl]∧zo 30=zs 30∧zs 32= .agg [.agg [.nilsl,.nilsl,.nilsl,.nilsl,.int .i64 0,.int .i64 0,.int .i64 0,.bool false,.str [],.nilsl],.agg [.nilsl,.nilsl,.nilsl,.nilsl,.int .i64 0,.int .i64 0,.int .i64 0,.bool false,.str [],.nilsl]]∧zo 32=zs 32∧zs 36= .agg [.nilsl,.nilsl]∧zo 36=zs 36∧zs 41= .agg [.nilsl,.nilsl,.nilsl]∧zo 41=zs 41∧zs 42= .agg [.int .i64 0,.int .i64 0,.int .i64 0,.int .i64 0,.int .i64 0,.int .i64 0]∧zo 42=zs 42∧zs 48= .agg [.nilsl,.nilsl,.bool false]∧zo 48=zs 48∧zs 54= .agg [.nilsl,.int .i64 0,.int .i64 0,.nilsl,.nilsl]∧zo 54=zs 54∧zs 71= .agg [.agg [.nilsl,.nilsl,.nilsl,.nilsl,.int .i64 0,.int .i64 0,.int .i64 0,.bool false,.str [],.nilsl],.nilsl,.nilsl]∧zo 71=zs 71∧zs 96= .agg [.nilsl,.nilsl]∧zo 96=zs 96∧zs 103= .agg [.int .i64 0,.nilsl,.int .i64 0,.nilsl]∧zo 103=zs 103∧zs 108= .agg [.str [],.int .i64 0,.int .i64 0]∧zo 108=zs 108∧zs 112= .nilf∧zo 112=zs 112∧zs 121= .agg [.int .i64 0,.nilsl]∧zo 121=zs 121:=by(repeat' refine And.intro ?_ ?_)<;>rfl
theorem zF1:zs 129= .agg [.bool false,.int .i64 0,.nilsl]∧zo 129=zs 129∧zs 143= .agg [.str [],.nilsl,.str [],.str [],.int .i64 0]∧zo 143=zs 143∧zs 150= .agg [.int .i64 0]∧zo 150=zs 150∧zs 153= .agg [.int .i64 0,.int .i64 0,.str [],.int .i64 0,.nilsl]∧zo 153=zs 153∧zs 156= .agg [.agg [.nilsl],.str [],.int .i64 0,.agg [.int .i64 0,.int .i64 0,.str [],.int .i64 0,.nilsl],.nilsl,.int .i64 0]∧zo 156=zs 156∧zs 183= .agg [.int .u8 0,.str [],.int .i64 0,.int .i64 0]∧zo 183=zs 183∧zs 185= .agg [.str [],.agg [.nilsl],.agg [.int .u8 0,.str [],.int .i64 0,.int .i64 0],.int .i64 0,.int .i64 0,.int .i64 0]∧zo 185=zs 185∧zs 192= .agg [.str [],.str [],.str [],.str [],.str [],.str [],.str [],.str [],.str []]∧zo 192=zs 192∧zs 197= .agg [.int .u32 0,.int .u32 0,.int .u32 0,.int .u32 0,.int .u32 0,.int .u32 0,.int .u32 0,.int .u32 0,.int .u32 0,.int .u32 0,.int .u32 0,.int .u32 0,.int .u32 0,.int .u32 0,.int .u32 0,.int .u32 0]∧zo 197=zs 197:=by(repeat' refine And.intro ?_ ?_)<;>rfl
attribute [go_sem] zi_3 zi_4 zi_5 zi_9 zi_22 zi_25 zi_30 zi_32 zi_36 zi_41 zi_42 zi_48 zi_54 zi_71 zi_96 zi_103 zi_108 zi_112 zi_121 zi_129 zi_143 zi_150 zi_153 zi_156 zi_183 zi_185 zi_192 zi_197 Qa tF0 tF1 tF2 tF3 tF4 tF5 tF6 tF7 tF8 tF9 tF10 tF11 tF12 tF13 zF0 zF1
set_option maxRecDepth 10000
open Go.Rt
open N0 in
theorem WC(x lo hi:Int)(H:Heap)(n:Nat):Ret prog 100 [.int .i64 x,.int .i64 lo,.int .i64 hi] H n (.bool (bout x lo hi)) H n:=by
 refine fw func100 ntmps100 results100 ?_;exact kbp
open N0 in
theorem J6(b:UInt8)(H:Heap)(n:Nat):Ret prog 135 [Zd b] H n (.bool (XC b)) H n:=by
 refine fw func135 ntmps135 results135 ?_;refine kcu ?_;refine kal ?_;unfold XC;by_cases h:97≤(b.toNat:Int)<;>simp[h]
theorem NB0.eqs{P Q:Prop}(g:Imp P Q:=by(try simp only[go_sem,seval]);exact Imp.rf):Imp P Q:=g
theorem NB0.sd{P:Prop}(g:P:=by first | exact Yg _ | fail):P:=g
open NB0 NZ in
theorem UI(a b:List UInt8)(H:Heap)(n:Nat):Ret prog 96 [bys a,bys b] H n (.bool (a==b)) H n:=by
 refine fw func96 ntmps96 results96 ?_;refine kb1 ?_;refine kag ?_;rw[Zt,Zt]
open N0 in
theorem MO(a:Int)(H:Heap)(n:Nat):Ret prog 170 [.int .i64 a] H n (.bool false) H n:=by
 refine fw func170 ntmps170 results170 ?_;refine kcu ?_;refine kal ?_;simp
theorem NJd0.eqs{P Q:Prop}(g:Imp P Q:=by(try simp only[go_sem,seval]);exact Imp.rf):Imp P Q:=g
open NJd0 NY in
theorem XF(v:Nat)(hv:v<18446744073709551616)(H:Heap)(n:Nat):Ret prog 83 [.int .u64 v] H n (.osl n (Zi v).length 0 (Zi v).length) (H.put n (some (.arr (Zi v).length 1 ((Zi v).map Zd)))) (n+1):=by
 have hlen:=Zp hv;refine fw func83 ntmps83 results83 ?_;refine kcu ?_;refine rg zs [0,3] ?_;refine bk fun K1 hK1=> ?_;refine ZN 3 1 rfl ?_;refine Yl [0,3] ?_;simp only[go_sem,seval];refine Zk (fun T' H' n'=>∃(b:List UInt8) (x:Nat),b++Zi x=Zi v∧x<18446744073709551616∧T'=tl [(0,.int .u64 x),(3,.osl n b.length 0 b.length)]∧H'=H.put n (some (.arr b.length 1 (b.map Zd)))∧n'=n+1) (fun T' _ _=>iv (T' 0)) ?_ ?_
 ·exact⟨[],v,rfl,hv,rfl,rfl,rfl⟩
 rintro T1 H1 n1 ⟨b,x,hbx,hx,rfl,rfl,rfl⟩;refine Za fun K2 hK2=> ?_;refine rg zs [0,3,5] ?_;refine Zb ?_ ?_<;>intro hb
 ·have hge:128≤x:=ott;rw[QP hge]at hbx;have hbl:b.length≤10:=by have:=congrArg List.length hbx;simp at this;omega
  refine kaQ ?_;refine kbM ?_;refine Zg zs [0,3] fun K V=> ?_
  try simp only[go_sem,seval,or128,qb,List.take_length,Qz,List.take_of_length_le]
  repeat (first | (refine And.intro ?_ ?_;· first | exact⟨rfl,by simp[AV.sz,AV.memOK]⟩ | exact⟨om,.inr trivial,om,om⟩) | refine peel ?_)
  refine kas ?_;refine ZP zs [0,3] fun K V=> ?_
  try simp only[go_sem,seval,shr7]
  refine kad ?_;exact ka7
 exact kaq
theorem NJd1.eqs{P Q:Prop}(g:Imp P Q:=by(try simp only[go_sem,seval,qb,Ya,hu]);exact Imp.rf):Imp P Q:=g
theorem NJd1.sd{P:Prop}(g:P:=by first | exact⟨om,.inr trivial,om,om⟩ | fail):P:=g
open NJd1 NZ in
theorem Wv(b:List UInt8)(hb:b.length≤1099511627776)(H:Heap)(n:Nat):Ret prog 84 [bys b] H n (.osl n ((Zi b.length).length+1) 0 (Zo b).length) (H.put n (some (.arr ((Zi b.length).length+1) 1 ((Zo b).map Zd)))) (n+1):=by
 have hlen:=Zp (v:=b.length) om;have hu:u64 (b.length:Int)=b.length:=Wm _ om;refine fw func84 ntmps84 results84 ?_;refine kcu ?_;refine rk zs [2] fun K V=> ?_;refine ck func83 ((XF b.length om _ _)) ?_;refine kas ?_;exact kbR
theorem NC0.eqs{P Q:Prop}(g:Imp P Q:=by(try simp only[go_sem,seval]);exact Imp.rf):Imp P Q:=g
theorem NC0.sd{P:Prop}(g:P:=by first | (intro h;simp[bout]at h;omega) | fail):P:=g
open NC0 NZ in
theorem c_cell_named(s:List UInt8)(H:Heap)(n:Nat):Ret prog 101 [.str s] H n (.bool (Xp s)) H n:=by
 refine fw func101 ntmps101 results101 ?_;refine kcu ?_;refine Za fun K1 hK1=> ?_;refine rk zs [0,13] fun K V=> ?_;refine ck func100 ((by apply WC<;>first | assumption | omega)) ?_;refine cg func135 (fun _=>(by apply J6<;>first | assumption | omega)) ?_;refine kas ?_;refine Zb ?_ ?_<;>intro hb
 ·refine Zg zs [2] fun K V=> ?_;simp only[go_sem,implies_true,true_and,and_true,List.map_cons,List.map_nil,↓reduceIte,Nat.reduceLT];refine V _ _ _ (awp_ret ?_);simp only[go_sem,↓reduceIte,implies_true,true_and,and_true];cases h1:bout s.length 1 32<;>simp_all [Xp]
 have h13:bout s.length 1 32=false∧XC (s.getD 0 0)=true:=by cases h1:bout s.length 1 32<;>simp_all
 have hlen:=V9 h13.1;refine kay ?_;refine Za fun K2 hK2=> ?_;refine rg zs [0,15,16] ?_;refine kbM ?_;refine Zk (fun T' H' n'=>∃i:Nat,i≤s.length∧T'=tl [(0,.str s),(15,.int .i64 s.length),(16,.int .i64 i)]∧H'=H∧n'=n∧(s.drop i).all Vo=s.all Vo) (fun T' _ _=>s.length-iv (T' 16)) ?_ ?_
 ·exact⟨0,Nat.zero_le _,rfl,rfl,rfl,osi⟩
 rintro T1 H1 n1 ⟨i,hi,rfl,rfl,rfl,hall⟩;refine rg zs [0,15,16,17] ?_;refine Za fun K3 hK3=> ?_;refine Zb ?_ ?_<;>intro hb
 ·have hlt:i<s.length:=osb;rw[Wi s i hlt,List.all_cons]at hall;refine kba ?_;refine bk fun K4 hK4=> ?_;refine rg zs [0,3,15,16] ?_;refine rg zs [0,4,15,16] ?_;refine rk zs [0,15,16,36] fun K V=> ?_;refine ck func135 ((by apply J6<;>first | assumption | omega)) ?_;refine kas ?_;refine Zb ?_ ?_<;>intro hb
  ·have hc:Vo (s.getD i 0)=false:=by unfold Vo;exact congrArg (!·) hb
   have hend:Xp s=false:=by
     have:s.all Vo=false:=by rw[←hall];show(Vo (s.getD i 0)&&_)=false;rw[hc];rfl
     simp[Xp,this]
   refine kal ?_;rw[hend]
  have hc:Vo (s.getD i 0)=true:=by unfold Vo;exact congrArg (!·) hb
  refine kb3 ?_;refine rg1 zs [0,15,16] ?_;refine⟨⟨i+1,om,by rw[w1 om],?_⟩,by rw[w1 om];simp;omega⟩;rw[←hall];show _=(Vo (s.getD i 0)&&_);rw[hc];rfl
 have hge:i=s.length:=by simp at hb;omega
 have hend:Xp s=true:=by
   have:s.all Vo=true:=by rw[←hall,hge];simp
   simp only[Xp,this,h13.1,h13.2];rfl
 refine ax ?_;apply hK2;refine kal ?_;rw[hend]
open N0 in
theorem UH(s:List Fml)(name:List UInt8)(hl:s.length≤1048576)(H:Heap)(n:Nat):Ret prog 102 [Zh s,.str name] H n (.int .i64 (Xv s name 0)) H n:=by
 refine Ret.fin ?_;refine fw func102 ntmps102 results102 ?_;refine rg zs [1,2] ?_;refine Za fun K1 hK1=> ?_;refine rg zs [1,8,9,10] ?_;refine kbM ?_;refine Zk (fun T' H' n'=>∃i:Nat,i≤s.length∧T'=tl [(1,.str name),(8,.sl 3 (s.map Y6)),(9,.int .i64 s.length),(10,.int .i64 i)]∧n≤n'∧(∀k,k<n→H' k=H k)∧Xv (s.drop i) name i=Xv s name 0) (fun T' _ _=>s.length-iv (T' 10)) ?_ ?_
 ·refine⟨0,Nat.zero_le _,by rw[qb];rfl,om,?_,rfl⟩;intro k hk;have h0:k≠n:=om
  simp[Heap.put,h0]
 rintro T1 H1 n1 ⟨i,hi,rfl,hn,hH,hix⟩;refine rg zs [1,8,9,10,11] ?_;refine Za fun K2 hK2=> ?_;refine Zb ?_ ?_<;>intro hb
 ·have hlt:i<s.length:=osb;rw[Wi s i hlt,Xv]at hix;refine kaQ ?_;refine bk fun K3 hK3=> ?_;have hnth:nth (s.map Y6) i=Y6 (s.getD i default):=Zr Y6 s i hlt;refine Zg zs [1,5,6,8,9,10] fun K V=> ?_
  try simp only[go_sem,seval,qd,hnth]
  refine kad ?_;refine Zg zs [1,5,8,9,10,18] fun K V=> ?_
  try simp only[go_sem,seval,qd]
  refine kad ?_;refine Zb ?_ ?_<;>intro hb
  ·have he:(s.getD i default).name=name:=osb;rw[if_pos he]at hix;refine kag ?_;exact kci
  have he:¬(s.getD i default).name=name:=osb;rw[if_neg he]at hix;refine kba ?_;refine rg1 zs [1,8,9,10] ?_;refine⟨⟨i+1,om,by rw[w1 om],om,?_,hix⟩,by rw[w1 om];simp;omega⟩;intro k hk;have h0:k≠n1:=om
  simp[h0,hH k hk]
 have hge:i=s.length:=by simp at hb;omega
 have hix:(-1:Int)=Xv s name 0:=by rw[←hix,hge];simp[Xv]
 refine ax ?_;apply hK1;refine kag ?_;exact kci
open N0 in
theorem c_cmp_Compare(x y:Int)(H:Heap)(n:Nat):Ret prog 165 [.int .i64 x,.int .i64 y] H n (.int .i64 (cmpI x y)) H n:=by
 refine fw func165 ntmps165 results165 ?_;refine kb1 ?_;refine rk zs [0,1,5] fun K V=> ?_;refine ck func170 ((by apply MO<;>first | assumption | omega)) ?_;refine kas ?_;refine rk zs [0,1,5,6] fun K V=> ?_;refine ck func170 ((by apply MO<;>first | assumption | omega)) ?_;refine kas ?_;refine Za fun K1 hK1=> ?_;refine rg zs [0,1,6,11] ?_;refine Zb ?_ ?_<;>intro hb
 ·refine Za fun K2 hK2=> ?_;refine rg zs [12] ?_;refine Zb ?_ ?_<;>intro hb
  ·refine kag ?_
   simp_all [cmpI];done
  refine kaQ ?_;refine kag ?_
  simp_all [cmpI];done
 refine kay ?_;refine Za fun K3 hK3=> ?_;refine rg zs [0,1,13] ?_;refine Zb ?_ ?_<;>intro hb
 ·refine kag ?_
  simp_all [cmpI];done
 refine kba ?_;refine Za fun K4 hK4=> ?_;refine rg zs [0,1,16] ?_;refine Zb ?_ ?_<;>intro hb
 ·refine kag ?_
  simp_all [cmpI];done
 refine kb3 ?_;refine Za fun K5 hK5=> ?_;refine rg zs [19] ?_;refine Zb ?_ ?_<;>intro hb
 ·refine kag ?_
  simp_all [cmpI];done
 refine ak ?_;apply hK5;refine kag ?_
 simp_all [cmpI];rw[if_neg om,if_neg om]
open N0 in
theorem Yk(a b:List UInt8)(H:Heap)(n:Nat):Ret prog 54 [bys a,bys b] H n (.int .i64 (Lib.compareBytes a b)) H n:=by
 refine fw func54 ntmps54 results54 ?_;refine kb1 ?_;refine rk zs [4] fun K V=> ?_;refine .inr (Md func81 rfl rfl odc rfl a b ?_);refine nz ?_;refine kas ?_;refine ar ?_;trivial
open N0 in
theorem V8(s:List Fml)(H:Heap)(n:Nat):Ret prog 66 [Zh s] H n (.int .i64 (Zy s)) H n:=by
 refine Ret.fin ?_;refine fw func66 ntmps66 results66 ?_;refine rg zs [1] ?_;refine Za fun K1 hK1=> ?_;refine rk zs [1,8] fun K V=> ?_;refine ck func100 ((by apply WC<;>first | assumption | omega)) ?_;refine kas ?_;refine Zb ?_ ?_<;>intro hb
 ·have hres : (28 : Int) = Zy s := by
    have:bout s.length 1 8=true:=osb;simp[Zy,this]
  refine rg zs [2] ?_;refine ar ?_;refine⟨_,rfl,?_,Frz.eq (by rw[hres]) trivial⟩;intro k hk;have h0:k≠n:=om
  simp[Heap.put,h0];done
 have hb8:bout s.length 1 8=false:=osb;have hlen:=V9 hb8;refine kay ?_;refine Za fun K2 hK2=> ?_;refine rg zs [1,10,11,12] ?_;refine kbM ?_;refine Zk (fun T' H' n'=>∃i:Nat,i≤s.length∧T'=tl [(1,.loc n 0 0 0 []),(10,.sl 3 (s.map Y6)),(11,.int .i64 s.length),(12,.int .i64 i)]∧n+1≤n'∧H' n=some (.arr 0 1 [Zh s])∧(∀k,k<n→H' k=H k)∧X5 s (s.drop i) i=X5 s s 0) (fun T' _ _=>s.length-iv (T' 12)) ?_ ?_
 ·refine⟨0,Nat.zero_le _,by rw[qb];rfl,om,?_,?_,rfl⟩
  ·simp[Heap.put,Zh]
  ·intro k hk;have h0:k≠n:=om
   simp[Heap.put,h0]
 rintro T1 H1 n1 ⟨i,hi,rfl,hn,hHn,hH,hix⟩;refine rg zs [1,10,11,12,13] ?_;refine Za fun K3 hK3=> ?_;refine Zb ?_ ?_<;>intro hb
 ·have hlt:i<s.length:=osb;rw[Wi s i hlt,KW]at hix;have hn1:(n=n1)=False:=oz;simp only[Zh]at hHn;refine kba ?_;refine bk fun K4 hK4=> ?_;have hnth:nth (s.map Y6) i=Y6 (s.getD i default):=Zr Y6 s i hlt;refine Zg zs [1,3,4,10,11,12] fun K V=> ?_
  try simp only[go_sem,seval,qd,hnth]
  refine kad ?_;refine Zg zs [1,10,11,12,38] fun K V=> ?_;refine kaB ?_;refine Zu func101 rfl rfl rfl ((c_cell_named (s.getD i default).name _ _)) ?_;refine kaB ?_;refine YM func102 rfl rfl rfl (fun _=>(UH s (s.getD i default).name om _ _)) ?_;refine kaB ?_;refine YM func100 rfl rfl rfl (fun _=>(WC (s.getD i default).max 1 16 _ _)) ?_;refine kaB ?_;refine YM func100 rfl rfl rfl (fun _=>(WC (s.getD i default).ttl 0 1099511627776 _ _)) ?_
  try simp only[go_sem,seval,qd,hn1,hHn]
  refine kad ?_;refine Zb ?_ ?_<;>intro hb
  ·have hbad : Vv s (s.getD i default) i = true := by
     simp only[Vv];cases h1:Xp (s.getD i default).name<;>cases h2:bout (s.getD i default).max 1 16<;>simp_all
   have hres:(28:Int)=Zy s:=by rw[hbad]at hix;simp[Zy,hb8,←hix]
   refine rg zs [2] ?_;refine ar ?_;refine⟨_,rfl,?_,Frz.eq (by rw[hres]) trivial⟩;intro k hk;have h0:k≠n:=om
   have h1:k≠n1:=om;simp[Heap.put,h0,h1,hH k hk]
  have hbad:Vv s (s.getD i default) i=false:=by
    simp only[Vv];cases h1:Xp (s.getD i default).name<;>cases h2:bout (s.getD i default).max 1 16<;>simp_all
  rw[hbad,Bool.false_or]at hix;refine kb3 ?_;refine rg1 zs [1,10,11,12] ?_;exact kbz
 have hge:i=s.length:=by simp at hb;omega
 have hres:(0:Int)=Zy s:=by rw[hge]at hix;simp[X5]at hix;simp[Zy,hb8,hix]
 refine ax ?_;apply hK2;refine kal ?_;exact kcB
theorem NJh0.eqs{P Q:Prop}(g:Imp P Q:=by(try simp only[go_sem,seval,qb]);exact Imp.rf):Imp P Q:=g
open NJh0 NY in
theorem V4(b:List UInt8)(p:Nat)(H:Heap)(n:Nat):Ret prog 130 [bys b,.int .i64 p] H n (.bool (decide (b.length<p))) H n:=by
 refine fw func130 ntmps130 results130 ?_;refine kb1 ?_;refine kag ?_;have h0:¬((p:Int)<0):=om;simp[h0]
def ruAV(x:Nat×Nat×Int):AV:= .tup [.int .u64 x.1,.int .i64 x.2.1,.int .i64 x.2.2]
theorem NJh1.eqs{P Q:Prop}(g:Imp P Q:=by(try simp only[go_sem,seval,qb]);exact Imp.rf):Imp P Q:=g
set_option maxHeartbeats 1600000 in
open NJh1 NY in
theorem QH(b:List UInt8)(p:Nat)(hb:b.length≤1099511627776)(hp:p≤1099511627776)(H:Heap)(n:Nat):Ret prog 93 [bys b,.int .i64 p] H n (ruAV (ruB b p)) H n:=by
 refine fw func93 ntmps93 results93 ?_;refine kb1 ?_;refine Za fun K1 hK1=> ?_;refine rc zs [0,1,12] func130 ((V4 b p _ _)) ?_;refine Zb ?_ ?_<;>intro hb
 ·have h1:b.length<p:=of_decide_eq_true hb;have hres:ruB b p=(0,0,1):=by unfold ruB;rw[if_pos h1]
  exact kaS
 have h1:¬b.length<p:=of_decide_eq_false hb;have hru:ruB b p=ruL b p 10 0:=by unfold ruB;rw[if_neg h1]
 refine kay ?_;refine rg zs [0,1,7] ?_;refine rg zs [0,1,7,8] ?_;refine kbM ?_;refine Zk (fun T' H' n'=>∃f v:Nat,f≤9∧v<2^(7*(9-f))∧T'=tl [(0,bys b),(1,.int .i64 p),(7,.int .u64 v),(8,.int .i64 (9-f:Nat))]∧H'=H∧n'=n∧ruL b p (f+1) v=ruB b p) (fun T' _ _=>9-iv (T' 8)) ?_ ?_
 ·exact⟨9,0,om,osi,rfl,rfl,rfl,hru.symm⟩
 rintro T1 H1 n1 ⟨f,v,hf,hv,rfl,rfl,rfl,hix⟩;refine bk fun K2 hK2=> ?_;refine Za fun K3 hK3=> ?_;have e1:IntKind.i64.wrap ((p:Int)+((9-f:Nat):Int))=((p+(9-f):Nat):Int):=by rw[w64 om om];omega
 unfold ruL at hix;refine Zg zs [0,1,7,8,20] fun K V=> ?_
 try simp only[go_sem,seval,qb,e1]
 refine kad ?_;refine Zb ?_ ?_<;>intro hb
 ·have hlt:b.length≤p+(9-f):=ott;have hres:ruB b p=(0,0,10):=by rw[←hix,if_pos hlt]
  exact kaS
 have hlt:¬b.length≤p+(9-f):=otf;rw[if_neg hlt]at hix;have hnth:nth (b.map Zd) (p+(9-f))=Zd (b.getD (p+(9-f)) 0):=Zr Zd b _ om;generalize b.getD (p+(9-f)) 0=c at*;have hcl:=c.toNat_lt;refine kba ?_;refine Zg zs [0,1,7,8,9] fun K V=> ?_
 try simp only[go_sem,seval,qb,e1,hnth,qd,Zd]
 refine kad ?_;refine Za fun K4 hK4=> ?_;refine rg zs [0,1,7,8,9,32] ?_;refine Zb ?_ ?_<;>intro hb
 ·have h3:(9-f=9)∧1<c.toNat:=by cases h:decide (((9-f:Nat):Int)=9)<;>simp_all<;>omega
  have hres:ruB b p=(0,0,13):=by rw[←hix,if_pos h3]
  exact kaS
 have h3:¬((9-f=9)∧1<c.toNat):=by rintro⟨h4,h5⟩;simp[h4]at hb;omega
 rw[if_neg h3]at hix;refine kb3 ?_;have e2:IntKind.i64.wrap (7*((9-f:Nat):Int))=((7*(9-f):Nat):Int):=by rw[w64 om om];omega
 have e3:IntKind.u64.wrap ((c.toNat%128:Nat):Int)=((c.toNat%128:Nat):Int):=by rw[IntKind.wrap_u64];omega
 have hm:c.toNat%128*2^(7*(9-f))≤127*2^56∨c.toNat%128*2^(7*(9-f))≤1*2^63:=by
   exact kbL
 have hv2:v<9223372036854775808:=Nat.lt_of_lt_of_le hv (Nat.pow_le_pow_right om (show 7*(9-f)≤63 by omega));have e4:IntKind.u64.wrap (((c.toNat%128:Nat):Int)*2^(min (7*(9-f)) 64))=((c.toNat%128*2^(7*(9-f)):Nat):Int):=by
   rw[show min (7*(9-f)) 64=7*(9-f) by omega,IntKind.wrap_u64];have:((c.toNat%128:Nat):Int)*2^(7*(9-f))=((c.toNat%128*2^(7*(9-f)):Nat):Int):=osi;rw[this];omega
 have e5:=or64 (x:=v) (m:=c.toNat%128) (k:=7*(9-f)) hv om;refine Zg zs [0,1,7,8,9] fun K V=> ?_
 try simp only[go_sem,seval,qb,and127,e2,e3,e4,e5,qd]
 refine kad ?_;refine rg zs [0,1,7,8,9,42] ?_;refine Zb ?_ ?_<;>intro hb
 ·have h4:c.toNat<128:=ott;rw[if_pos h4]at hix;refine Za fun K5 hK5=> ?_;refine rg zs [1,7,8,48] ?_;refine Zb ?_ ?_<;>intro hb
  ·have h5:c.toNat=0∧0<9-f:=by cases h:decide ((c.toNat:Int)=0)<;>simp_all<;>omega
   have hres:ruB b p=(0,0,11):=by rw[←hix,if_pos h5]
   exact kaS
  have h5:¬(c.toNat=0∧0<9-f):=by rintro⟨h6,h7⟩;simp[h6]at hb;omega
  rw[if_neg h5]at hix;have e6:IntKind.i64.wrap (((p+(9-f):Nat):Int)+1)=((p+(9-f)+1:Nat):Int):=by rw[w64 om om];omega
  refine ak ?_;apply hK5;refine Zg zs [4,5,6] fun K V=> ?_
  try simp only[go_sem,seval,qb,e1,e6]
  refine kad ?_;refine ar ?_;rw[←hix];rfl
 have h4:¬c.toNat<128:=otf;rw[if_neg h4]at hix;have hf0:0<f:=Nat.pos_of_ne_zero fun h0=>h3 ⟨om,om⟩;obtain⟨g,rfl⟩:∃g,f=g+1:=⟨f-1,om⟩;have e8:9-(g+1)=8-g:=om;rw[e8]at hix hv;have e7:IntKind.i64.wrap (((8-g:Nat):Int)+1)=((9-g:Nat):Int):=by rw[w64 om om];omega
 refine kaQ ?_;refine ZP zs [0,1,7,8] fun K V=> ?_
 try simp only[go_sem,seval,qb,e7]
 refine kad ?_;refine ns ?_;refine⟨⟨g,v+c.toNat%128*2^(7*(8-g)),om,?_,rfl,hix⟩,by simp[iv];omega⟩;have h6:7*(9-g)=7*(8-g)+7:=om;rw[h6,Nat.pow_add];exact kcv
theorem NJh2.eqs{P Q:Prop}(g:Imp P Q:=by(try simp only[go_sem,seval,qb,qi]);exact Imp.rf):Imp P Q:=g
theorem NJh2.sd{P:Prop}(g:P:=by first | omega | (simp;omega) | fail):P:=g
open NJh2 NZ in
theorem NW(x:UInt8)(b:List UInt8)(hb9:b.length≤1099511627776)(H:Heap)(n:Nat):Zn prog 53 [bys (x::b)] H n (OAns H n (bys (x::b))):=by
 refine fw func53 ntmps53 results53 ?_;refine kcu ?_;refine Za fun K1 hK1=> ?_;refine rg zs [0,4] ?_;refine Zb ?_ ?_<;>intro hb
 ·exact kcQ
 refine kay ?_;refine rg zo [2] ?_;refine ar ?_;refine OAns.one (.osl (els:=(x::b).map Zd) (by simp[Heap.put];rfl) osi (by rw[List.take_of_length_le osi];exact RD _ (WW _))) om (fun k hk=> ?_) om;have h0:k≠n:=om;simp[Heap.put,h0]
open N0 in
theorem N7(H:Heap)(n:Nat):Zn prog 53 [bys []] H n (OAns H n (bys [])):=by
 refine fw func53 ntmps53 results53 ?_;refine awp_raw_sl 0 rfl fun ad cap=> ?_;simp only[go_sem];refine rg zs [0] ?_;refine Za fun K1 hK1=> ?_;refine rg zs [0,4] ?_;refine Zb ?_ ?_<;>intro hb
 ·refine rg zs [2] ?_;refine ar ?_;exact OAns.emp .nilsl (fun k hk=>rfl) (Nat.le_refl _)
  all_goals (refine OAns.one (.osl (els:=[]) (by simp[Heap.put];first | rfl | done) (Nat.le_refl _) .nil) om (fun k hk=> ?_) om;have h0:k≠n:=om;simp[Heap.put,h0])
 refine ak ?_;apply hK1;refine P9 0 (.sl 1 []) (Wk.raw_sl ad cap 1) ?_;simp only[go_sem];refine Zg zo [2] fun K V=> ?_
 try simp only[go_sem,seval,List.map_nil,List.length_nil]
 repeat refine peel ?_
 apply V;clear V K;refine ar ?_
 all_goals (refine OAns.one (.osl (els:=[]) (by simp[Heap.put];first | rfl | done) (Nat.le_refl _) .nil) om (fun k hk=> ?_) om;have h0:k≠n:=om;simp[Heap.put,h0])
theorem Xa(b:List UInt8)(hb:b.length≤1099511627776)(H:Heap)(n:Nat):Zn prog 53 [bys b] H n (OAns H n (bys b)):=by
 cases b with
 | nil=>exact N7 H n
 | cons x b=>exact NW x b (by simp at hb;omega) H n
theorem c_bytes_Clone(b:List UInt8)(hb:b.length≤1099511627776)(H:Heap)(n:Nat):Ret prog 53 [bys b] H n (bys b) H n:=OAns.fin (Xa b hb H n)
def rbAV(x:List UInt8×Nat×Int):AV:= .tup [bys x.1,.int .i64 x.2.1,.int .i64 x.2.2]
theorem NJh3.eqs{P Q:Prop}(g:Imp P Q:=by(try simp only[go_sem,seval,qb,ruAV,Ya,hum,List.length_drop,qk]);exact Imp.rf):Imp P Q:=g
set_option maxHeartbeats 1600000 in
open NJh3 NY in
theorem LV(b:List UInt8)(p most:Nat)(hb9:b.length≤1099511627776)(hp:p≤1099511627776)(hm:most≤1099511627776)(H:Heap)(n:Nat):Zn prog 94 [bys b,.int .i64 p,.int .i64 most] H n (OAns H n (rbAV (rbB b p most))):=by
 obtain⟨hu1,hu2,hu3⟩:=ruB_lt b p;have hum:u64 (most:Int)=most:=Wm _ om;have hs:=hum;refine fw func94 ntmps94 results94 ?_;refine rg zs [0,1,2] ?_;refine Za fun K1 hK1=> ?_;refine rc zs [0,1,2,18] func130 ((V4 b p _ _)) ?_;refine Zb ?_ ?_<;>intro hb
 ·have h1:b.length<p:=by have h0:¬((most:Int)<0):=om;simp[h0]at hb;exact hb
  have hres:rbB b p most=([],0,1):=by unfold rbB;rw[if_pos h1]
  exact kaV
 have h1:¬b.length<p:=by have h0:¬((most:Int)<0):=om;simp[h0]at hb;omega
 refine kay ?_;refine rc zs [0,1,2,9,10] func93 ((QH b p hb9 hp _ _)) ?_;refine bk fun K2 hK2=> ?_;refine rg zs [0,1,2,9,10,26] ?_;refine Zb ?_ ?_<;>intro hb
 ·have h2:(ruB b p).2.2≠0:=osb;have hres:rbB b p most=([],0,(ruB b p).2.2):=by unfold rbB;rw[if_neg h1,if_pos h2]
  exact kaV
 have h2:(ruB b p).2.2=0:=osb;have hu4:=hu2 h2;refine rg zs [0,1,9,30] ?_;refine Zb ?_ ?_<;>intro hb
 ·have h3:most<(ruB b p).1:=ott;have hres:rbB b p most=([],0,13):=by unfold rbB;rw[if_neg h1,if_neg (by simp[h2]),if_pos h3]
  exact kaV
 have h3:¬most<(ruB b p).1:=otf;have e1:IntKind.i64.wrap ((b.length:Int)-((ruB b p).2.1:Int))=((b.length-(ruB b p).2.1:Nat):Int):=by rw[w64 om om];omega
 have e2:u64 ((b.length-(ruB b p).2.1:Nat):Int)=b.length-(ruB b p).2.1:=Wm _ om;refine Zg zs [0,1,9,35] fun K V=> ?_
 try simp only[go_sem,seval,qb,ruAV,Ya,hum,List.length_drop,qk,e1,e2]
 refine kad ?_;refine Zb ?_ ?_<;>intro hb
 ·have h4:b.length-(ruB b p).2.1<(ruB b p).1:=ott;have hres:rbB b p most=([],0,10):=by unfold rbB;rw[if_neg h1,if_neg (by simp[h2]),if_neg h3,if_pos h4]
  exact kaV
 have h4:¬b.length-(ruB b p).2.1<(ruB b p).1:=otf;have hres:rbB b p most=((b.drop (ruB b p).2.1).take (ruB b p).1,(ruB b p).2.1+(ruB b p).1,0):=by unfold rbB;rw[if_neg h1,if_neg (by simp[h2]),if_neg h3,if_neg h4]
 have e3:IntKind.i64.wrap ((ruB b p).1:Int)=((ruB b p).1:Int):=w64 om om;have e4:IntKind.i64.wrap (((ruB b p).2.1:Int)+((ruB b p).1:Int))=(((ruB b p).2.1+(ruB b p).1:Nat):Int):=by rw[w64 om om];omega
 have e5:List.drop (ruB b p).2.1 (List.take ((ruB b p).2.1+(ruB b p).1) (b.map Zd))=((b.drop (ruB b p).2.1).take (ruB b p).1).map Zd:=by rw[List.take_add,List.drop_append_of_le_length oz,List.drop_take_self,List.nil_append,←List.map_drop,←List.map_take]
 refine kaQ ?_;refine Zg zs [0,1,11] fun K V=> ?_;refine kb8 ?_;refine kad ?_;refine Zg zs [6,7,8] fun K V=> ?_
 try simp only[go_sem,seval,qb,ruAV,Ya,hum,List.length_drop,qk,e5,hs,Option.getD_some,qd]
 repeat (first | (refine And.intro ?_ ?_;· first | exact⟨om,om,om,fun m h=>h.elim⟩) | refine peel ?_)
 refine cK func53 ((Xa ((b.drop (ruB b p).2.1).take (ruB b p).1) oz _ _)) ?_ ?_
 ·intro p H' n' hc;exact hc.pan.elim
 intro rr H1 n1 hc;obtain⟨ks,hm⟩:=hc.got;have hs:=hm.own.strip true
 try simp only[go_sem,seval,qb,ruAV,Ya,hum,List.length_drop,qk,e5,hs,Option.getD_some,qd]
 refine kad ?_;refine ar ?_;rw[hres];exact⟨_,ks,rfl,hm.own.tupII,hm.nd,hm.lo,hm.low,hm.nn⟩
open N0 in
theorem J5(b:UInt8)(H:Heap)(n:Nat):Ret prog 113 [Zd b] H n (.bool (Wp b)) H n:=by
 refine fw func113 ntmps113 results113 ?_;refine kcu ?_;refine kal ?_;exact kbm
open N0 in
theorem UF(b:UInt8)(H:Heap)(n:Nat):Ret prog 115 [Zd b] H n (.bool (ZA b)) H n:=by
 refine fw func115 ntmps115 results115 ?_;refine kcu ?_;refine kal ?_;exact kbo
open N0 in
theorem c_query_blank(b:UInt8)(H:Heap)(n:Nat):Ret prog 112 [Zd b] H n (.bool (b.toNat==32)) H n:=by
 refine fw func112 ntmps112 results112 ?_;refine kcu ?_;refine kal ?_;simp;rw[Bool.eq_iff_iff,beq_iff_eq,beq_iff_eq];omega
open N0 in
theorem c_query_name(b:UInt8)(H:Heap)(n:Nat):Ret prog 114 [Zd b] H n (.bool (Xk b)) H n:=by
 refine fw func114 ntmps114 results114 ?_;refine kcu ?_;refine rk zs [2] fun K V=> ?_;refine ck func113 ((J5 b _ _)) ?_;refine cg func115 (fun _=>(UF b _ _)) ?_;refine kas ?_;refine ar ?_;unfold Xk;have i:((b.toNat:Int)==95)=(b.toNat==95):=obq
 simp_all
open N0 in
theorem PS(s:List UInt8)(b:UInt8)(H:Heap)(n:Nat):Ret prog 158 [.str s,Zd b] H n (.int .i64 (idxB s b)) H n:=by
 refine fw func158 ntmps158 results158 ?_;refine kb1 ?_;refine rk zs [4] fun K V=> ?_;refine .inr (ext_indexByte func169 rfl rfl odc rfl s b ?_);refine nz ?_;refine kas ?_;refine ar ?_;trivial
open N0 in
theorem JQ(s:List UInt8)(b:UInt8)(H:Heap)(n:Nat):Ret prog 152 [.str s,Zd b] H n (.int .i64 (idxB s b)) H n:=by
 refine fw func152 ntmps152 results152 ?_;refine kb1 ?_;refine rc zs [4] func158 ((PS s b _ _)) ?_;refine ar ?_;trivial
open N0 in
theorem Ur(b:UInt8)(H:Heap)(n:Nat):Ret prog 140 [Zd b] H n (.int .i64 (hexI b)) H n:=by
 refine fw func140 ntmps140 results140 ?_;refine kcu ?_;refine rc zs [2] func152 ((JQ hexS b _ _)) ?_;refine ar ?_;rw[idxB_hex]
def U5(p:Nat):AV:= .iface 150 (.agg [.int .i64 p])
open N0 in
theorem Ye(p:Nat)(H:Heap)(n:Nat):Zn prog 80 [.int .i64 p] H n fun res H' n'=>H'=H∧n'=n∧res= .pan (U5 p):=by
 refine fw func80 ntmps80 results80 ?_;refine awp_pan1 zs 3 rfl trivial ?_;refine nz ?_;refine ns ?_;rfl
def wdAV(w:Wd):AV:= .agg [.int .i64 w.kind,.int .i64 w.pos,.str w.text,.int .i64 w.num,bys w.str]
def qdO(fs:List Fml)(t:List UInt8)(s:Qst)(ko ver:Nat):AObj:= .arr 0 10 [.agg [Zh fs,.str t,.int .i64 s.far,wdAV s.nxt,.osl ko ver 0 s.out.length,.int .i64 s.deep]]
theorem Jw{so:UInt8→Bool}{t:List UInt8}{i:Nat}(h:i<t.length)(hb:so (t.getD i 0)=true):ZM so t (i+1)=ZM so t i:=by
 unfold ZM;rw[List.drop_eq_getElem_cons h,List.takeWhile_cons];have e:t.getD i 0=t[i]:=by simp[List.getD,h]
 rw[e]at hb;rw[if_pos hb,qi];omega
theorem U7{so:UInt8→Bool}{t:List UInt8}{i:Nat}(h:i<t.length)(hb:so (t.getD i 0)=false):ZM so t i=i:=by
 unfold ZM;rw[List.drop_eq_getElem_cons h,List.takeWhile_cons];have e:t.getD i 0=t[i]:=by simp[List.getD,h]
 rw[e]at hb;rw[if_neg (by rw[hb];simp)];rfl
theorem U8{so:UInt8→Bool}{t:List UInt8}{i:Nat}(h:t.length≤i):ZM so t i=i:=by
 unfold ZM;rw[List.drop_eq_nil_of_le h];rfl
theorem NQ40.eqs{P Q:Prop}(g:Imp P Q:=by(try simp only[go_sem,seval,hR1,hszs,wdAV,hszb]);exact Imp.rf):Imp P Q:=g
open NQ40 NY in
theorem UD (fs : List Fml) (t : List UInt8) (s : Qst) (kr ko ver : Nat) (ht : t.length ≤ 512) (p : Nat) (hp : p ≤ t.length) (so : UInt8 → Bool) (f : FuncId) {fn : Func} (hf : (prog).funcs[f]? = some fn) (hbd : fn.body.isSome = true) (hn : (fn.name == "runtime.NumGoroutine") = false)
   (H:Heap) (n:Nat) (hso:∀b H n,Ret prog f [Zd b] H n (.bool (so b)) H n) (hR:H kr=some (qdO fs t s ko ver)):
   Ret prog 111 [.loc kr 0 0 0 [],.int .i64 p,.fn (.func f) [] []] H n (.int .i64 (ZM so t p)) H n:=by
 have hR1:=hR;unfold qdO at hR1;have w1:∀{i:Nat},i<t.length→IntKind.i64.wrap ((i:Int)+1)=((i+1:Nat):Int):=fun h=>by rw[w64 om om];omega
 have hszs:(Zh fs).sz=1:=rfl;have hszb:∀b,(bys b).sz=1:=fun _=>rfl;refine fw func111 ntmps111 results111 ?_;refine rg zs [0,1,2] ?_;refine bk fun K1 hK1=> ?_;refine Zk (fun T' H' n'=>∃i:Nat,i≤t.length∧T'=tl [(0,.loc kr 0 0 0 []),(1,.int .i64 i),(2,.fn (.func f) [] [])]∧H'=H∧n'=n∧ZM so t i=ZM so t p) (fun T' _ _=>t.length-iv (T' 1)) ?_ ?_
 ·exact⟨p,hp,rfl,rfl,rfl,rfl⟩
 rintro T1 H1 n1 ⟨i,hi,rfl,rfl,rfl,hix⟩;refine Za fun K2 hK2=> ?_;refine rk zs [0,1,2,23] fun K V=> ?_;refine YM (args':=[Zd (t.getD i 0)]) hf hbd hn rfl (fun _=>hso (t.getD i 0) _ _) ?_;refine nz ?_;apply V;clear V K;refine Zb ?_ ?_<;>intro hb
 ·have hb1:(bif decide ((i:Int)<(t.length:Int))then so (t.getD i 0)else false)=true:=hb;have hlt:i<t.length:=by rcases Nat.lt_or_ge i t.length with h | h;exact h;rw[decide_eq_false om]at hb1;cases hb1
  have hso1:so (t.getD i 0)=true:=by rw[decide_eq_true om]at hb1;exact hb1
  have hnext:ZM so t (i+1)=ZM so t p:=by rw[Jw hlt hso1,hix]
  refine ak ?_;apply hK2;refine Zq ?_;refine rg1 zs [0,1,2] ?_;exact⟨⟨i+1,om,by rw[w1 om],hnext⟩,by rw[w1 om];simp;omega⟩
 have hb1:(bif decide ((i:Int)<(t.length:Int))then so (t.getD i 0)else false)=false:=hb;have hres:(i:Int)=((ZM so t p:Nat):Int):=by rw[←hix];rcases Nat.lt_or_ge i t.length with h | h;(rw[decide_eq_true om]at hb1;rw[U7 h hb1]);rw[U8 h]
 refine ax ?_;apply hK1;refine rg zs [6] ?_;refine ar ?_;rw[hres]
theorem NQ50.eqs{P Q:Prop}(g:Imp P Q:=by(try simp only[go_sem,seval,hR1,hszs,wdAV,hszb]);exact Imp.rf):Imp P Q:=g
open NQ50 NY in
theorem Xr(fs : List Fml)(t : List UInt8)(s : Qst)(kr ko ver : Nat)(w : List UInt8)(H : Heap)(n : Nat)(hR : H kr = some (qdO fs t s ko ver)):
   Ret prog 120 [.loc kr 0 0 0 [],.str w] H n (.bool (isF s w)) H n:=by
 have hR1:=hR;unfold qdO at hR1;have hszs:(Zh fs).sz=1:=rfl;have hszb:∀b,(bys b).sz=1:=fun _=>rfl;refine fw func120 ntmps120 results120 ?_;refine rg zs [0,1] ?_;refine rg zs [4] ?_;refine ar ?_;unfold isF;have i1:((s.nxt.kind:Int)==1)=(s.nxt.kind==1):=obq
 have i2:((s.nxt.kind:Int)==4)=(s.nxt.kind==4):=obq
 simp_all
theorem Nf(w:Wd)(n:Nat):(wdAV w).kl n:=⟨trivial,trivial,trivial,trivial,Z4 _ _,trivial⟩
theorem kl_schQ(s:List Fml)(n:Nat):(Zh s).kl n:=by
 unfold Zh;exact⟨Xq Y6 (fun x=>⟨trivial,trivial,trivial,trivial⟩) s,trivial⟩
def outO(s:Qst)(ver:Nat):AObj:= .arr ver 5 (s.out.map wdAV)
def qst(fs:List Fml)(t:List UInt8)(kr ko:Nat)(s:Qst)(ver:Nat)(H:Heap):Heap:=(H.put ko (some (outO s ver))).put kr (some (qdO fs t s ko ver))
def QdK(fs:List Fml)(t:List UInt8)(kr ko:Nat)(H:Heap)(n:Nat)(r:Except Nat (AV×Qst))(res:ARes)(H':Heap)(n':Nat):Prop:=
 match r with
 | .ok x=>∃ver,res= .val x.1∧H'=qst fs t kr ko x.2 ver H∧n'=n
 | .error p=>res= .pan (U5 p)∧n≤n'∧∀k,k<n→k≠kr→k≠ko→H' k=H k
theorem QdK.val{fs:List Fml}{t:List UInt8}{kr ko:Nat}{H:Heap}{n:Nat}{r:Except Nat (AV×Qst)}{v:AV}{H':Heap}{n':Nat}(h:QdK fs t kr ko H n r (.val v) H' n'):∃s ver,r= .ok (v,s)∧H'=qst fs t kr ko s ver H∧n'=n:=by
 cases r with
 | ok x=>obtain⟨ver,h1,h2,h3⟩:=h;cases h1;exact⟨x.2,ver,rfl,h2,h3⟩
 | error p=>cases h.1
theorem QdK.pan{fs:List Fml}{t:List UInt8}{kr ko:Nat}{H:Heap}{n:Nat}{r:Except Nat (AV×Qst)}{v:AV}{H':Heap}{n':Nat}(h:QdK fs t kr ko H n r (.pan v) H' n'):∃p,r= .error p∧v=U5 p∧n≤n'∧∀k,k<n→k≠kr→k≠ko→H' k=H k:=by
 cases r with
 | ok x=>obtain⟨ver,h1,_⟩:=h;cases h1
 | error p=>obtain⟨h1,h2,h3⟩:=h;cases h1;exact⟨p,rfl,rfl,h2,h3⟩
def qdAV(fs:List Fml)(t:List UInt8)(s:Qst)(ko ver:Nat):AV:= .agg [Zh fs,.str t,.int .i64 s.far,wdAV s.nxt,.osl ko ver 0 s.out.length,.int .i64 s.deep]
theorem KU(fs:List Fml)(t:List UInt8)(s:Qst){ko ver n:Nat}(hk:ko<n):(qdAV fs t s ko ver).kl n:=⟨kl_schQ fs n,trivial,trivial,Nf _ n,hk,trivial,trivial⟩
structure QdH(fs:List Fml)(t:List UInt8)(kr ko:Nat)(s:Qst)(ver:Nat)(H:Heap)(n:Nat):Prop where
 lr:kr<n
 lo:ko<n
 ne:kr≠ko
 r:H kr=some (qdO fs t s ko ver)
 o:H ko=some (outO s ver)
section
variable {fs:List Fml}{t:List UInt8}{kr ko:Nat}{s s':Qst}{ver ver':Nat}{H H':Heap}{n n':Nat}
theorem QdH.on(h:QdH fs t kr ko s ver H n)(h1:H' kr=H kr)(h2:H' ko=H ko)(hn:n≤n'):QdH fs t kr ko s ver H' n':=
 ⟨Nat.lt_of_lt_of_le h.lr hn,Nat.lt_of_lt_of_le h.lo hn,h.ne,h1.trans h.r,h2.trans h.o⟩
theorem QdH.low(h:QdH fs t kr ko s ver H n)(hl:∀k,k<n→H' k=H k)(hn:n≤n'):QdH fs t kr ko s ver H' n':=h.on (hl _ h.lr) (hl _ h.lo) hn
theorem QdH.turn(h:QdH fs t kr ko s ver H n)(s':Qst)(ver':Nat):QdH fs t kr ko s' ver' (qst fs t kr ko s' ver' H) n:=
 ⟨h.lr,h.lo,h.ne,Rm _ _ _,by unfold qst;rw[Rk _ _ h.ne.symm,Rm]⟩
theorem QdK.get{r:Except Nat (AV×Qst)}{v:AV}{s0:Qst}{ver0:Nat}(hk:QdK fs t kr ko H n r (.val v) H' n')(h:QdH fs t kr ko s0 ver0 H n):∃s ver,r= .ok (v,s)∧QdH fs t kr ko s ver H' n∧n'=n∧∀k,k≠kr→k≠ko→H' k=H k:=by
 obtain⟨s,ver,h1,rfl,rfl⟩:=hk.val;exact⟨s,ver,h1,h.turn s ver,rfl,fun k e1 e2=>by unfold qst;rw[Rk _ _ e1,Rk _ _ e2]⟩
def QdE(fs:List Fml)(t:List UInt8)(kr ko:Nat)(H:Heap)(n:Nat)(r:Except Nat (AV×Qst))(res:ARes)(H1:Heap)(n':Nat):Prop:=
 (∃v v' s ver a,res= .val v∧r= .ok (v',s)∧H1 kr=some (.arr 0 10 [a])∧Frz H1 n a (qdAV fs t s ko ver)∧H1 ko=some (outO s ver)∧(∀k,k<n→k≠kr→k≠ko→H1 k=H k)∧Frz H1 n v v')∨(∃p,r= .error p∧res= .pan (U5 p)∧n≤n'∧∀k,k<n→k≠kr→k≠ko→H1 k=H k)
theorem QdE.err{r:Except Nat (AV×Qst)}{p:Nat}(hr:r= .error p)(hn:n≤n')(hl:∀k,k<n→k≠kr→k≠ko→H' k=H k):QdE fs t kr ko H n r (.pan (U5 p)) H' n':= .inr ⟨p,hr,rfl,hn,hl⟩
theorem QdE.val{r:Except Nat (AV×Qst)}{v v' a:AV}{s:Qst}{ver:Nat}(hr:r= .ok (v',s))(h1:H' kr=some (.arr 0 10 [a]))(h2:Frz H' n a (qdAV fs t s ko ver))(h3:H' ko=some (outO s ver))(hl:∀k,k<n→k≠kr→k≠ko→H' k=H k)(hf:Frz H' n v v'):QdE fs t kr ko H n r (.val v) H' n':= .inl ⟨v,v',s,ver,a,rfl,hr,h1,h2,h3,hl,hf⟩
theorem QdE.ok{r:Except Nat (AV×Qst)}{v v':AV}{s:Qst}{ver m:Nat}(hr:r= .ok (v',s))(h:QdH fs t kr ko s ver H' m)(hk:ko<n)(hl:∀k,k<n→k≠kr→k≠ko→H' k=H k)(hf:Frz H' n v v'):QdE fs t kr ko H n r (.val v) H' n':= .inl ⟨v,v',s,ver,_,rfl,hr,h.r,.kl (KU fs t s hk),h.o,hl,hf⟩
theorem QdK.up{r:Except Nat (AV×Qst)}{v:AV}{H2:Heap}{n2:Nat}{r0:Except Nat (AV×Qst)}(h:QdK fs t kr ko H' n' r (.pan v) H2 n2)(hr:∀p,r= .error p→r0= .error p)(hn:n≤n')(hl:∀k,k<n→k≠kr→k≠ko→H' k=H k):QdE fs t kr ko H n r0 (.pan v) H2 n2:=by
 obtain⟨p,h1,rfl,h2,h3⟩:=h.pan;exact QdE.err (hr p h1) (Nat.le_trans hn h2) fun k e1 e2 e3=>(h3 k (Nat.lt_of_lt_of_le e1 hn) e2 e3).trans (hl k e1 e2 e3)
theorem QdK.fin{P:Program}{f:FuncId}{args:List AV}{r:Except Nat (AV×Qst)}(hk:kr<n)(hk2:ko<n)(hne:kr≠ko)(h:Zn P f args H n (QdE fs t kr ko H n r)):Zn P f args H n (QdK fs t kr ko H n r):=
 Si (h.mono fun res H1 n' hd=>by
   rcases hd with⟨v,v',s,ver,a,h1,h2,h3,h4,h5,h6,h7⟩ | ⟨p,h1,h2,h3,h4⟩
   ·refine .inl ⟨v,v',qst fs t kr ko s ver H,h1,fun k hk3=> ?_,fun k hk3=> ?_,h7,?_⟩
    ·unfold qst;by_cases e:k=kr
     ·subst e;exact .inr ⟨0,10,[a],[qdAV fs t s ko ver],h3,Rm _ _ _,.cons h4 .nil⟩
     ·rw[LowO,Rk _ _ e];by_cases e2:k=ko
      ·subst e2;rw[Rm,h5];exact .inl ⟨rfl,.inr fun o ho=>by cases ho;exact Xq wdAV (fun x=>Nf x n) _⟩
      ·rw[Rk _ _ e2,h6 k hk3 e e2];exact .inl ⟨rfl,.inl rfl⟩
    ·unfold qst;rw[Rk _ _ om,Rk _ _ om]
    ·rw[h2];exact⟨ver,rfl,rfl,rfl⟩
   ·exact .inr ⟨_,h2,by rw[h1];exact⟨rfl,h3,h4⟩⟩)
end
def digN(l:List UInt8):Nat:=l.foldl (fun n c=>10*n+(c.toNat-48)) 0
theorem digN_snoc(l:List UInt8)(c:UInt8):digN (l++[c])=10*digN l+(c.toNat-48):=by simp[digN]
theorem digN_lt':∀(l:List UInt8) (a:Nat),(∀c∈l,ZA c=true)→l.foldl (fun n c=>10*n+(c.toNat-48)) a<(a+1)*10^l.length
 | [],a,_=>osi
 | c::l,a,h=>by
   have ih:=digN_lt' l (10*a+(c.toNat-48)) fun x hx=>h x (by simp[hx]);have h2:=h c osi;unfold ZA at h2;simp only[Bool.and_eq_true,decide_eq_true_eq]at h2;rw[List.foldl_cons,qi,Nat.pow_succ,Nat.mul_comm (10^l.length),←Nat.mul_assoc];exact Nat.lt_of_lt_of_le ih (Nat.mul_le_mul_right _ om)
theorem digN_lt(l:List UInt8)(h:∀c∈l,ZA c=true):digN l<10^l.length:=by
 have:=digN_lt' l 0 h;simpa [digN]using this
theorem digN_step{l:List UInt8}(hl:∀c∈l,ZA c=true){i:Nat}(h:i<l.length)(h14:i<14):digN (l.take i)<100000000000000∧48≤(l.getD i 0).toNat∧(l.getD i 0).toNat≤57∧digN (l.take (i+1))=10*digN (l.take i)+((l.getD i 0).toNat-48):=by
 have h1:=digN_lt (l.take i) fun c hc=>hl c (List.mem_of_mem_take hc);have h2:10^(l.take i).length≤10^14:=Nat.pow_le_pow_right om (by rw[qk];omega);have e:l.getD i 0=l[i]:=by simp[List.getD,h]
 have h3:=hl l[i] (List.getElem_mem h);unfold ZA at h3;simp only[Bool.and_eq_true,decide_eq_true_eq]at h3;refine⟨om,by rw[e];omega,by rw[e];omega,?_⟩;rw[List.take_succ_eq_append_getElem h,digN_snoc,e]
theorem numF_eq(t:List UInt8)(p:Nat):numF t p=if 1099511627776<digN (((t.drop p).takeWhile ZA).take 14)∨(1<((t.drop p).takeWhile ZA).length∧((t.drop p).takeWhile ZA).getD 0 0=48)then none else some (⟨2,p,(t.drop p).takeWhile ZA,digN (((t.drop p).takeWhile ZA).take 14),[]⟩,ZM ZA t p):=rfl
theorem NQ60.eqs{P Q:Prop}(g:Imp P Q:=by(try simp only[go_sem,seval,hR1,hszs,wdAV,hszb,hkn,hnk]);exact Imp.rf):Imp P Q:=g
theorem NQ60.sd{P:Prop}(g:P:=by first | exact⟨by(simp;first | done | fail),by first | (simp;first | done | fail) | simpa using hw1,by first | (simp;first | done | fail) | simpa using hw2⟩ | (intro hx;simp at hx;omega) | (intros;simp_all;done) | fail):P:=g
open NQ60 NZ in
theorem P5(fs : List Fml)(t : List UInt8)(s : Qst)(kr ko ver : Nat)(ht : t.length ≤ 512)(p : Nat)(hp : p ≤ t.length)(H : Heap)(n : Nat)(h : QdH fs t kr ko s ver H n):
   Zn prog 116 [.loc kr 0 0 0 [],.int .i64 p] H n (QdK fs t kr ko H n (match numF t p with | some x=> .ok (wdAV x.1,{s with far:=x.2}) | none=> .error p)):=by
 have hR:=h.r;have hR1:=hR;unfold qdO at hR1;have hk:=h.lr;have hko:=h.lo;have hne:=h.ne;have hszs:(Zh fs).sz=1:=rfl;have hszb:∀b,(bys b).sz=1:=fun _=>rfl;have hkn:kr≠n:=om;have hnk:n≠kr:=om;obtain⟨hw1,hw2⟩:=XK ZA t p hp;have hcut:=U9 ZA t p;have hdl:=Lx ZA (t.drop p);rw[List.length_drop]at hdl;have hds:∀c∈(t.drop p).takeWhile ZA,ZA c=true:=fun c hc=>by
   have:=List.all_takeWhile (p:=ZA) (l:=t.drop p);exact List.all_eq_true.1 this c hc
 obtain⟨r,hr⟩:∃r,r=(match numF t p with | some x=> .ok (wdAV x.1,{s with far:=x.2}) | none=> .error p:Except Nat (AV×Qst)):=⟨_,rfl⟩;rw[←hr];rw[numF_eq]at hr;generalize (t.drop p).takeWhile ZA=d at*;refine QdK.fin hk hko hne ?_;refine fw func116 ntmps116 results116 ?_;refine rg zs [0,1,4] ?_;refine rk zs [0,1,4] fun K V=> ?_;refine ck func111 ((UD fs t s kr ko ver ht p hp ZA _ func115 rfl rfl _ _ (fun b _ _=>UF b _ _) (by simp[Heap.put,hkn,hR]))) ?_;apply V;clear V K;refine Y0 rfl zs [1,4,5] [.m,.q,.q,.q,.m,.m,.q,.q,.q,.q,.q] [0,1,2,3,4,5,6,7,8,9,10] [0,1,2,3,4,5,6,7,8,9,10] (by kernel_rfl) (fun _ _ _ _ _ h=>h) fun K V=> ?_
 try simp only[go_sem,seval,hR1,hszs,wdAV,hszb,hkn,hnk,Option.getD_some,qd,hcut]
 repeat (first | (refine And.intro ?_ ?_;· first | exact⟨osi,by first | (simp;first | done | fail) | simpa using hw1,by first | (simp;first | done | fail) | simpa using hw2⟩) | refine peel ?_)
 apply V;clear V K;refine rg zs [1,4,5,6] ?_;refine Za fun K1 hK1=> ?_;refine rg zs [1,4,5,6,7] ?_;refine Zq ?_;refine Zk (fun T' H' n'=>∃i:Nat,i≤d.length∧i≤14∧T'=tl [(1,.int .i64 p),(4,.loc n 0 0 0 []),(5,.str d),(6,.int .i64 (digN (d.take i))),(7,.int .i64 i)]∧H'=(H.put n (some (.arr 0 5 [.agg [.int .i64 0,.int .i64 0,.str [],.int .i64 0,.nilsl]]))).put kr (some (qdO fs t {s with far:=ZM ZA t p} ko ver))∧n'=n+1) (fun T' _ _=>14-iv (T' 7)) ?_ ?_
 ·exact⟨0,om,om,rfl,rfl,rfl⟩
 rintro T1 H1 n1 ⟨i,hi,hi14,rfl,rfl,rfl⟩;refine Za fun K2 hK2=> ?_;refine rg zs [1,4,5,6,7,31] ?_;refine Zb ?_ ?_<;>intro hb
 ·have hb1:i<d.length∧i<14:=by have hb0:i<d.length∧(i:Int)<14:=osb;exact⟨hb0.1,om⟩
  obtain⟨g1,g2,g3,g4⟩:=digN_step hds hb1.1 hb1.2;have e1:IntKind.u8.wrap ((((d.getD i 0).toNat:Nat):Int)-48)=(((d.getD i 0).toNat-48:Nat):Int):=by rw[IntKind.wrap_u8];omega
  have e2:IntKind.i64.wrap (10*((digN (d.take i):Nat):Int))=((10*digN (d.take i):Nat):Int):=by rw[w64 om om];omega
  have e3:IntKind.i64.wrap ((((d.getD i 0).toNat-48:Nat):Int))=(((d.getD i 0).toNat-48:Nat):Int):=w64 om om;have e4:IntKind.i64.wrap (((10*digN (d.take i):Nat):Int)+(((d.getD i 0).toNat-48:Nat):Int))=((digN (d.take (i+1)):Nat):Int):=by rw[w64 om om];omega
  refine ak ?_;apply hK2;refine bk fun K3 hK3=> ?_;refine rg1 zs [1,4,5,6,7] ?_;apply hK3;refine rg1 zs [1,4,5,6,7] ?_;refine⟨⟨i+1,om,om,?_⟩,by rw[w1 om];simp;omega⟩;rw[qd,e1,e2,e3,e4,w1 om]
 have htk:d.take i=d.take 14:=by
   have hb0:¬(i<d.length∧i<14):=(by intro hc;have:((i:Int)<14):=om;simp[hc.1,this]at hb);by_cases h14:i=14
   ·rw[h14]
   ·rw[List.take_of_length_le om,List.take_of_length_le om]
 have hbad:(bif decide (1099511627776<((digN (d.take i):Nat):Int))then true else bif decide (1<(d.length:Int))then(((d.getD 0 0).toNat:Nat):Int)==48 else false)=decide (1099511627776<digN (d.take 14)∨(1<d.length∧d.getD 0 0=48)):=by
   rw[htk];have q1:decide (1099511627776<((digN (d.take 14):Nat):Int))=decide (1099511627776<digN (d.take 14)):=decide_eq_decide.2 om;have q2:decide (1<(d.length:Int))=decide (1<d.length):=decide_eq_decide.2 om;have q3:((((d.getD 0 0).toNat:Nat):Int)==48)=decide (d.getD 0 0=48):=by rw[Bool.eq_iff_iff,beq_iff_eq,decide_eq_true_eq];constructor;(intro hh;exact UInt8.toNat_inj.1 (by show _=48;omega));(intro hh;rw[hh];rfl)
   rw[q1,q2,q3];by_cases c1:1099511627776<digN (d.take 14)<;>by_cases c2:1<d.length<;>simp[c1,c2]
 refine ax ?_;apply hK1;refine Za fun K4 hK4=> ?_;refine rg zs [1,4,5,6,53] ?_;refine Zb ?_ ?_<;>intro hb
 ·have hbad1:(1099511627776<digN (d.take 14)∨(1<d.length∧d.getD 0 0=48)):=of_decide_eq_true (hbad▸hb);refine rk1 zs [1,4,5,6] fun K V=> ?_;refine Zw (args':=[.int .i64 p]) func80 rfl rfl rfl (Ye p _ _) ?_ ?_
  ·rintro rr H' n' ⟨rfl,rfl,h1⟩;cases h1
  rintro q H' n' ⟨rfl,rfl,h1⟩;cases h1;refine QdE.err ?_ om ?_
  ·rw[hr,if_pos hbad1]
  ·intro k e1 e2 e3;rw[Rk _ _ e2,Rk _ _ om]
 have hbad1:¬(1099511627776<digN (d.take 14)∨(1<d.length∧d.getD 0 0=48)):=of_decide_eq_false (hbad▸hb);refine ak ?_;apply hK4;refine rg zs [4] ?_;refine ar ?_;rw[if_neg hbad1]at hr;refine QdE.val hr (by rw[Rk _ _ hkn,Rm];rfl) (.kl (KU fs t _ hko)) ?_ ?_ ?_
 ·rw[Rk _ _ om,Rk _ _ hne.symm,Rk _ _ om];exact h.o
 ·intro k e1 e2 e3;rw[Rk _ _ om,Rk _ _ e2,Rk _ _ om]
 ·rw[htk];exact .agg (.cons (.kl trivial) (.cons (.kl trivial) (.cons (.kl trivial) (.cons (.kl trivial) (.cons .nilsl .nil)))))
structure StrS(H:Heap)(n p:Nat)(s x:List UInt8)(v2 v3:Nat)(H':Heap):Prop where
 r:H' n=some (.arr 0 5 [.agg [.int .i64 0,.int .i64 0,.str [],.int .i64 0,.nilsl]])
 w:H' (n+1)=some (.arr 0 5 [.agg [.int .i64 3,.int .i64 p,.str [],.int .i64 0,.osl (n+3) v3 0 s.length]])
 x:H' (n+2)=some (.arr v2 1 (x.map Zd))
 s:H' (n+3)=some (.arr v3 1 (s.map Zd))
 low:∀k,k<n→H' k=H k
theorem JF{c:UInt8}(h:hexI c<0):hexV c=none:=by
 unfold hexI at h;cases e:hexV c with
 | none=>rfl
 | some x=>rw[e]at h;simp only at h;omega
theorem JG{c:UInt8}(h:0≤hexI c):∃a,hexV c=some a∧hexI c=((a:Nat):Int):=by
 unfold hexI at h ⊢;cases e:hexV c with
 | none=>rw[e]at h;exact absurd h odc
 | some x=>exact⟨x,rfl,rfl⟩
theorem and15(c:UInt8):intBits .and .u8 (c.toNat:Int) 15=((c.toNat%16:Nat):Int):=by
 have key:∀r:Fin 256,intBits .and .u8 ((r.1:Nat):Int) 15=((r.1%16:Nat):Int):=by decide +kernel
 exact key ⟨c.toNat,c.toNat_lt⟩
theorem shr4(c:UInt8):((c.toNat:Nat):Int).fdiv (2^min 4 8)=((c.toNat/16:Nat):Int):=by
 rw[show(2:Int)^(min 4 8)=16 by decide,Int.fdiv_eq_ediv_of_nonneg _ odc];omega
theorem or_hex{a b:Nat}(ha:a<16)(hb:b<16):IntKind.u8.wrap (intBits .or .i64 (IntKind.i64.wrap ((a:Int)*2^(min 4 64))) (b:Int))=((UInt8.ofNat (16*a+b)).toNat:Int):=by
 have key:∀(x y:Fin 16),IntKind.u8.wrap (intBits .or .i64 (IntKind.i64.wrap (((x.1:Nat):Int)*2^(min 4 64))) ((y.1:Nat):Int))=((UInt8.ofNat (16*x.1+y.1)).toNat:Int):=by decide +kernel
 exact key ⟨a,ha⟩ ⟨b,hb⟩
theorem hexC_getD{a:Nat}(ha:a<16):([48,49,50,51,52,53,54,55,56,57,97,98,99,100,101,102]:List UInt8).getD a 0=hexC a:=by
 have key:∀(x:Fin 16),([48,49,50,51,52,53,54,55,56,57,97,98,99,100,101,102]:List UInt8).getD x.1 0=hexC x.1:=by decide +kernel
 exact key ⟨a,ha⟩
theorem StrS.step{H H2 : Heap}{n p : Nat}{s x : List UInt8}{v2 v3 : Nat}(h : StrS H n p s x v2 v3 H2)(c : UInt8)(ys : List UInt8){zs : List AV}(hz : zs = ys.map Zd):
   StrS H n p (s++[c]) (x++ys) (v2+1) (v3+1) (((H2.put (n+3) (some (.arr (v3+1) 1 (s.map Zd++[.int .u8 c.toNat])))).put (n+1) (some (.arr 0 5 [.agg [.int .i64 3,.int .i64 p,.str [],.int .i64 0,.osl (n+3) (v3+1) 0 (s.length+1)]]))).put (n+2) (some (.arr (v2+1) 1 (x.map Zd++zs)))) where
 r:=by rw[Rk _ _ om,Rk _ _ om,Rk _ _ om];exact h.r
 w:=by rw[Rk _ _ om,Rm,qe];rfl
 x:=by rw[Rm,qj,hz]
 s:=by rw[Rk _ _ om,Rk _ _ om,Rm,qj];rfl
 low:=fun k hk=>by rw[Rk _ _ om,Rk _ _ om,Rk _ _ om];exact h.low k hk
theorem NQs0.eqs{P Q:Prop}(g:Imp P Q:=by(try simp only[go_sem,seval,hR1,hszs,wdAV,hszb,e0,hS0,hS1,hS2,hS3,hx,qb,f1,f2,f3,f4,f5,f6,f7,f8,f9,g1,g2,g3,g4,g5,g6,g7,g8,g9,qd]);exact Imp.rf):Imp P Q:=g
theorem NQs0.sd{P:Prop}(g:P:=by first | (intro hx9;rcases Nat.lt_or_ge (i+2) t.length with q | q;exact⟨om,om⟩;rw[decide_eq_true om]at hx9;cases hx9) | (intros;simp_all;done) | exact⟨rfl,by(simp[AV.sz,AV.memOK];first | done | fail)⟩ | fail):P:=g
set_option maxHeartbeats 1600000 in
open NQs0 NZ in
theorem c_query_str(fs : List Fml)(t : List UInt8)(s : Qst)(kr ko ver : Nat)(ht : t.length ≤ 512)(p : Nat)(hp : p < t.length)(H : Heap)(n : Nat)(h : QdH fs t kr ko s ver H n):
   Zn prog 117 [.loc kr 0 0 0 [],.int .i64 p] H n (QdK fs t kr ko H n (match strF t p with | some x=> .ok (wdAV x.1,{s with far:=x.2}) | none=> .error p)):=by
 have hR:=h.r;have hR1:=hR;unfold qdO at hR1;have hk:=h.lr;have hko:=h.lo;have hne:=h.ne;have hszs:(Zh fs).sz=1:=rfl;have hszb:∀b,(bys b).sz=1:=fun _=>rfl;obtain⟨r,hr⟩:∃r,r=(match strF t p with | some x=> .ok (wdAV x.1,{s with far:=x.2}) | none=> .error p:Except Nat (AV×Qst)):=⟨_,rfl⟩;rw[←hr];unfold strF at hr;generalize hG:strG (t.length+1) (t.drop (p+1)) (p+1) [] [34]=G at hr;have e0:IntKind.i64.wrap ((p:Int)+1)=((p+1:Nat):Int):=by rw[w64 om om];omega
 have hS0:=hszs;have hS1:=hszs;have hS2:=hszs;have hS3:=hszs;have hx:=hszs;have f1:(n=n+1)=False:=osi;have f2:(n=n+2)=False:=osi;have f3:(n=n+3)=False:=osi;have f4:(n+1=n)=False:=osi;have f5:(n+1=n+2)=False:=osi;have f6:(n+1=n+3)=False:=osi;have f7:(n+2=n)=False:=osi;have f8:(n+2=n+1)=False:=osi;have f9:(n+2=n+3)=False:=osi;have g1:(n+3=n)=False:=osi;have g2:(n+3=n+1)=False:=osi;have g3:(n+3=n+2)=False:=osi;have g4:(n=kr)=False:=oz;have g5:(n+1=kr)=False:=oz;have g6:(n+2=kr)=False:=oz;have g7:(n+3=kr)=False:=oz;have g8:(kr=n)=False:=oz;have g9:(kr=n+1)=False:=oz;refine QdK.fin hk hko hne ?_;refine fw func117 ntmps117 results117 ?_;refine rg zs [0,1,4] ?_;refine rg zs [0,1,4,5] ?_;refine rg zo [0,1,4,5,6] ?_;refine Za fun K1 hK1=> ?_;refine rg zs [0,1,4,5,6,7] ?_;refine Zq ?_;refine ZO (n+1) 1 (ver:=0) (e:=5) (els:=[.agg [.int .i64 3,.int .i64 p,.str [],.int .i64 0,.nilsl]]) (els':=[.agg [.int .i64 3,.int .i64 p,.str [],.int .i64 0,.osl (n+3) 0 0 0]]) (by simp[Heap.put]) ⟨Adp.agg ⟨.refl _ _,.refl _ _,.refl _ _,.refl _ _,Adp.nilsl _,trivial⟩,trivial⟩ ?_;refine Zk (fun T' H' n'=>∃(i f:Nat) (s x:List UInt8) (v2 v3:Nat),p<i∧i≤t.length∧t.length+p+2≤f+i∧strG f (t.drop i) i s x=G∧s.length≤i∧x.length≤3*i+1∧T'=tl [(0,.loc kr 0 0 0 []),(1,.int .i64 p),(4,.loc n 0 0 0 []),(5,.loc (n+1) 0 0 0 []),(6,.osl (n+2) v2 0 x.length),(7,.int .i64 i)]∧StrS H n p s x v2 v3 H'∧n'=n+4) (fun T' _ _=>t.length-iv (T' 7)) ?_ ?_
 ·exact⟨p+1,t.length+1,[],[34],0,0,om,om,om,hG,osi,osi,rfl,⟨by simp[Heap.put];omega,by simp[Heap.put],by simp[Heap.put,Zd],by simp[Heap.put],fun k hk=>by simp only[Rl];(repeat rw[if_neg om])⟩,om⟩
 rintro T1 H1 n1 ⟨i,f,s1,x1,v2,v3,hpi,hit,hfi,hgi,hsl,hxl,rfl,hS,rfl⟩;obtain⟨f,rfl⟩:∃g,f=g+1:=⟨f-1,om⟩;have hR1:=(hS.low kr hk).trans hR1;have hS1:=hS.w;have hS2:=hS.x;have hS3:=hS.s;have hS0:=hS.r;refine Za fun K2 hK2=> ?_;refine rg zs [0,1,4,5,6,7,20] ?_;refine Zb ?_ ?_<;>intro hb
 ·have hlt:i<t.length:=ott;have hx:IntKind.i64.wrap ((i:Int)+1)=((i+1:Nat):Int):=w1 om;obtain⟨c,hc⟩:∃c,c=t.getD i 0:=⟨_,rfl⟩;have hcl:=c.toNat_lt;have e34:List.take x1.length (List.map Zd x1)=List.map Zd x1:=List.take_of_length_le osi;have e35:List.take (x1.length+1) (List.map Zd x1++[AV.int .u8 34])=List.map Zd (x1++[34]):=by rw[List.take_of_length_le osi];simp[Zd]
  refine ak ?_;apply hK2;refine ZL [0,1,4,5,6,7] (fun T' H' n'=>∃(i' f':Nat) (s' x':List UInt8) (v2' v3':Nat),i≤i'∧i'<t.length∧t.length+p+2≤f'+i'+1∧strG f' (t.drop (i'+1)) (i'+1) s' x'=G∧s'.length≤i'+1∧x'.length≤3*(i'+1)+1∧T'=tl [(0,.loc kr 0 0 0 []),(1,.int .i64 p),(4,.loc n 0 0 0 []),(5,.loc (n+1) 0 0 0 []),(6,.osl (n+2) v2' 0 x'.length),(7,.int .i64 i')]∧StrS H n p s' x' v2' v3' H'∧n'=n+4) ?_ ?_
  ·refine Zq ?_;refine Zg zs [0,1,4,5,6,7,8] fun K V=> ?_
   try simp only[go_sem,seval,hR1,hszs,wdAV,hszb,e0,hS0,hS1,hS2,hS3,hx,qb,f1,f2,f3,f4,f5,f6,f7,f8,f9,g1,g2,g3,g4,g5,g6,g7,g8,g9,qd,←hc]
   repeat (first | (refine And.intro ?_ ?_;· first | exact⟨om,om⟩) | refine peel ?_)
   apply V;clear V K;refine ZL [0,1,4,5,6,7,8] (fun T' H' n'=>∃(i' f':Nat) (c':UInt8),i≤i'∧i'<t.length∧t.length+p+2≤f'+i'+1∧strG f' (t.drop (i'+1)) (i'+1) (s1++[c']) (x1++Xy c')=G∧T'=tl [(0,.loc kr 0 0 0 []),(1,.int .i64 p),(4,.loc n 0 0 0 []),(5,.loc (n+1) 0 0 0 []),(6,.osl (n+2) v2 0 x1.length),(7,.int .i64 i'),(8,Zd c')]∧H'=H1∧n'=n+4) ?_ ?_
   ·refine Zq ?_;refine rg zs [0,1,4,5,6,7,8,29] ?_;refine Zb ?_ ?_<;>intro hb
    ·have k0:(t.getD i 0).toNat=34:=by rw[←hc];have h9:=hb;simp at h9;omega
     refine rg zs [4,5,6] ?_;refine Zg zs [4,5] fun K V=> ?_
     try simp only[go_sem,seval,hR1,hszs,wdAV,hszb,e0,hS0,hS1,hS2,hS3,hx,qb,f1,f2,f3,f4,f5,f6,f7,f8,f9,g1,g2,g3,g4,g5,g6,g7,g8,g9,qd,e34,e35,Zt]
     repeat (first | (refine And.intro ?_ ?_;· first | exact⟨rfl,by simp[AV.sz,AV.memOK]⟩ | exact⟨om,.inr trivial,om,om⟩ | exact⟨osi,Yg _⟩) | refine peel ?_)
     apply V;clear V K;refine rg zs [4] ?_;refine ar ?_;rw[Nz hlt k0]at hgi;rw[←hgi]at hr;refine QdE.val (s:={s with far:=i+1}) (ver:=ver) hr (by rw[Rk _ _ om,Rk _ _ om,Rk _ _ om,Rm];rfl) (.kl (KU fs t _ hko)) ?_ ?_ ?_
     ·rw[Rk _ _ om,Rk _ _ om,Rk _ _ om,Rk _ _ hne.symm,hS.low ko hko];exact h.o
     ·intro k e1 e2 e3;rw[Rk _ _ om,Rk _ _ om,Rk _ _ om,Rk _ _ e2,hS.low k e1]
     ·exact .agg (.cons (.kl trivial) (.cons (.kl trivial) (.cons (.kl trivial) (.cons (.kl trivial) (.cons (.osl (els:=s1.map Zd) (ver:=v3) (by rw[Rk _ _ om,Rk _ _ om,Rk _ _ om,Rk _ _ om];exact hS.s) om osi (by rw[List.drop_zero,List.take_of_length_le osi];exact XM _ (Z4 _ _))) .nil)))))
    have k0:¬(t.getD i 0).toNat=34:=by rw[←hc];have h9:=hb;simp at h9;omega
    refine rg zs [0,1,4,5,6,7,8,43] ?_;refine Zb ?_ ?_<;>intro hb
    ·have k1:(t.getD i 0).toNat<32∨126<(t.getD i 0).toNat:=by rw[←hc];have h9:=hb;simp at h9;omega
     refine rk1 zs [0,1,4,5,6,7,8] fun K V=> ?_;refine Zw (args':=[.int .i64 p]) func80 rfl rfl rfl (Ye p _ _) ?_ ?_
     ·rintro rr H' n' ⟨rfl,rfl,h1⟩;cases h1
     rintro q H' n' ⟨rfl,rfl,h1⟩;cases h1;refine QdE.err ?_ om (fun k e1 e2 e3=>hS.low k e1);rw[hr,←hgi,strG_bad hlt k0 k1];rfl
    have k1:¬((t.getD i 0).toNat<32∨126<(t.getD i 0).toNat):=by rw[←hc];have h9:=hb;simp at h9;omega
    refine rg zs [0,1,4,5,6,7,8,52] ?_;refine Zb ?_ ?_<;>intro hb
    ·have k2:(t.getD i 0).toNat=92:=by rw[←hc];have h9:=hb;simp at h9;omega
     refine rg zs [0,1,4,5,6,7] ?_;refine Za fun K3 hK3=> ?_;refine rg zs [0,1,4,5,6,7,63] ?_;refine Zb ?_ ?_<;>intro hb
     ·have k3:t.length≤i+1:=by have h9:=hb;simp at h9;omega
      refine rk1 zs [0,1,4,5,6,7] fun K V=> ?_;refine Zw (args':=[.int .i64 p]) func80 rfl rfl rfl (Ye p _ _) ?_ ?_
      ·rintro rr H' n' ⟨rfl,rfl,h1⟩;cases h1
      rintro q H' n' ⟨rfl,rfl,h1⟩;cases h1;refine QdE.err ?_ om (fun k e1 e2 e3=>hS.low k e1);rw[hr,←hgi,strG_esc0 hlt k2 k3];rfl
     have k3:i+1<t.length:=by have h9:=hb;simp at h9;omega
     have hx:=w1 (i:=i+1) om;obtain⟨d,hd⟩:∃d,d=t.getD (i+1) 0:=⟨_,rfl⟩;have hdl:=d.toNat_lt;refine ak ?_;apply hK3;refine Zg zs [0,1,4,5,6,7,8] fun K V=> ?_
     try simp only[go_sem,seval,hR1,hszs,wdAV,hszb,e0,hS0,hS1,hS2,hS3,hx,qb,f1,f2,f3,f4,f5,f6,f7,f8,f9,g1,g2,g3,g4,g5,g6,g7,g8,g9,qd,←hd]
     repeat (first | (refine And.intro ?_ ?_;· first | exact⟨om,om⟩) | refine peel ?_)
     apply V;clear V K;refine rg zs [0,1,4,5,6,7,8,77] ?_;refine Zb ?_ ?_<;>intro hb
     ·have k4:¬((t.getD (i+1) 0).toNat=34∨(t.getD (i+1) 0).toNat=92):=by rw[←hd];have h9:=hb;simp at h9;omega
      refine Za fun K4 hK4=> ?_;refine rk zs [0,1,4,5,6,7,8,101] fun K V=> ?_;refine cg func140 (fun _=>(Ur d _ _)) ?_;refine cg func140 (fun _=>(Ur (t.getD (i+2) 0) _ _)) ?_;apply V;clear V K;refine Zb ?_ ?_<;>intro hb
      ·have k5 : strG (f + 1) (t.drop i) i s1 x1 = none := by
         rcases Nat.lt_or_ge (i+2) t.length with q | q
         ·rw[decide_eq_false om]at hb;refine strG_esc3 q k2 k4 ?_;by_cases hd0:hexI d<0
          ·left;rw[←hd];exact JF hd0
          ·right;rw[decide_eq_false hd0]at hb;exact JF (of_decide_eq_true hb)
         ·exact strG_esc2 k3 k2 k4 q
       refine rk1 zs [0,1,4,5,6,7,8] fun K V=> ?_;refine Zw (args':=[.int .i64 p]) func80 rfl rfl rfl (Ye p _ _) ?_ ?_
       ·rintro rr H' n' ⟨rfl,rfl,h1⟩;cases h1
       rintro q H' n' ⟨rfl,rfl,h1⟩;cases h1;refine QdE.err ?_ om (fun k e1 e2 e3=>hS.low k e1);rw[hr,←hgi,k5];rfl
      have k7:i+2<t.length:=by rcases Nat.lt_or_ge (i+2) t.length with q | q;exact q;rw[decide_eq_true om]at hb;cases hb
      rw[decide_eq_false om]at hb;obtain⟨a,ha,ha2⟩:∃a,hexV d=some a∧hexI d=((a:Nat):Int):=JG (by by_cases q:hexI d<0;(rw[decide_eq_true q]at hb;cases hb);omega);obtain⟨b,hb2,hb3⟩:∃b,hexV (t.getD (i+2) 0)=some b∧hexI (t.getD (i+2) 0)=((b:Nat):Int):=JG (by by_cases q:hexI (t.getD (i+2) 0)<0;(rw[decide_eq_true q]at hb;cases h:decide (hexI d<0)<;>rw[h]at hb<;>cases hb);omega);have hal:=Ni ha;have hbl:=Ni hb2;refine ak ?_;apply hK4;refine Y0 rfl zs [0,1,4,5,6,7,8] [.m,.c,.q,.m,.q,.q,.q,.m,.q,.q,.c,.q,.q,.q] [0,1,2,3,4,5,6,7,8,9,10,11,12,13] [0,1,2,3,4,5,6,7,8,9,10,11,12,13] (by kernel_rfl) (fun _ _ _ _ _ h=>h) fun K V=> ?_
      try simp only[go_sem,seval,hR1,hszs,wdAV,hszb,e0,hS0,hS1,hS2,hS3,hx,qb,f1,f2,f3,f4,f5,f6,f7,f8,f9,g1,g2,g3,g4,g5,g6,g7,g8,g9,qd,ha2,hb3]
      repeat refine peel ?_
      refine ZQ func140 rfl rfl rfl (fun _ n=>(Ur d _ _)) ?_
      try simp only[go_sem,seval,hR1,hszs,wdAV,hszb,e0,hS0,hS1,hS2,hS3,hx,qb,f1,f2,f3,f4,f5,f6,f7,f8,f9,g1,g2,g3,g4,g5,g6,g7,g8,g9,qd,ha2,hb3]
      repeat (first | (refine And.intro ?_ ?_;· first | exact⟨om,om⟩) | refine peel ?_)
      refine ZQ func140 rfl rfl rfl (fun _ n=>(Ur (t.getD (i+2) 0) _ _)) ?_
      try simp only[go_sem,seval,hR1,hszs,wdAV,hszb,e0,hS0,hS1,hS2,hS3,hx,qb,f1,f2,f3,f4,f5,f6,f7,f8,f9,g1,g2,g3,g4,g5,g6,g7,g8,g9,qd,ha2,hb3]
      repeat refine peel ?_
      apply V;clear V K;refine rg1 zs [0,1,4,5,6,7,8] ?_;refine ns ?_;exact⟨i+2,f,UInt8.ofNat (16*a+b),om,k7,om,by rw[←strG_esc4 k7 k2 k4 (hd▸ha) hb2];exact hgi,by rw[or_hex hal hbl]⟩
     have k4:(t.getD (i+1) 0).toNat=34∨(t.getD (i+1) 0).toNat=92:=by rw[←hd];have h9:=hb;simp at h9;omega
     refine ak ?_;refine ns ?_;exact⟨i+1,f,d,om,k3,om,by rw[hd,←strG_esc1 k3 k2 k4];exact hgi,rfl⟩
    have k2:¬(t.getD i 0).toNat=92:=by rw[←hc];have h9:=hb;simp at h9;omega
    refine ak ?_;refine ns ?_;exact⟨i,f,c,om,hlt,om,by rw[hc,←NA hlt k0 k1 k2];exact hgi,rfl⟩
   rintro T2 H2 n2 ⟨i',f',c',q1,q2,q3,q4,rfl,rfl,rfl⟩;have m1:((c'.toNat:Nat):Int).fdiv (2^min 4 8)=((c'.toNat/16:Nat):Int):=shr4 c';have m2:=and15 c';have hcl':=c'.toNat_lt;have e36:List.take s1.length (List.map Zd s1)=List.map Zd s1:=List.take_of_length_le osi;refine Zg zs [0,1,4,5,6,7,8] fun K V=> ?_
   try simp only[go_sem,seval,hR1,hszs,wdAV,hszb,e0,hS0,hS1,hS2,hS3,hx,qb,f1,f2,f3,f4,f5,f6,f7,f8,f9,g1,g2,g3,g4,g5,g6,g7,g8,g9,qd,e36]
   repeat (first | (refine And.intro ?_ ?_;· first | exact⟨rfl,by simp[AV.sz,AV.memOK]⟩ | exact⟨om,.inr trivial,om,om⟩) | refine peel ?_)
   apply V;clear V K;refine Zq ?_;refine rg zs [0,1,4,5,6,7,8,129] ?_;refine Zb ?_ ?_<;>intro hb
   ·have hq:Xy c'=[92,c']:=by unfold Xy;rw[if_pos];have h9:=hb;simp at h9;omega
    refine ZP zs [0,1,4,5,6,7] fun K V=> ?_
    try simp only[go_sem,seval,hR1,hszs,wdAV,hszb,e0,hS0,hS1,hS2,hS3,hx,qb,f1,f2,f3,f4,f5,f6,f7,f8,f9,g1,g2,g3,g4,g5,g6,g7,g8,g9,qd,e34]
    repeat (first | (refine And.intro ?_ ?_;· first | exact⟨rfl,by simp[AV.sz,AV.memOK]⟩ | exact⟨om,.inr trivial,om,om⟩) | refine peel ?_)
    apply V;clear V K;refine ns ?_;refine ns ?_;refine⟨i',f',s1++[c'],x1++Xy c',v2+1,v3+1,q1,q2,om,q4,oz,by have:=WQ c';simp;omega,by rw[hq,qe];rfl,?_⟩;rw[hq];exact hS.step c' _ rfl
   have k8:¬(c'.toNat=34∨c'.toNat=92):=by have h9:=hb;simp at h9;omega
   refine rg zs [0,1,4,5,6,7,8,140] ?_;refine Zb ?_ ?_<;>intro hb
   ·have hq:Xy c'=[92,hexC (c'.toNat/16),hexC (c'.toNat%16)]:=by unfold Xy;rw[if_neg k8,if_pos];have h9:=hb;simp at h9;omega
    refine U4 rfl zs [0,1,4,5,6,7] [.m,.m,.q,.q,.m,.q,.q,.q,.w [],.q] [0,1,2,3,4,5,6,7,8,9] [0,1,2,3,4,5,6,7,8,9] (by kernel_rfl) (fun _ _ _ _ _ h=>h) fun K V=> ?_
    try simp only[go_sem,seval,hR1,hszs,wdAV,hszb,e0,hS0,hS1,hS2,hS3,hx,qb,f1,f2,f3,f4,f5,f6,f7,f8,f9,g1,g2,g3,g4,g5,g6,g7,g8,g9,qd,e34,m1,m2]
    repeat (first | (refine And.intro ?_ ?_;· first | exact⟨om,om⟩ | exact⟨rfl,by simp[AV.sz,AV.memOK]⟩ | exact⟨om,.inr trivial,om,om⟩) | refine peel ?_)
    apply V;clear V K;refine ns ?_;refine ns ?_;refine⟨i',f',s1++[c'],x1++Xy c',v2+1,v3+1,q1,q2,om,q4,oz,by have:=WQ c';simp;omega,by rw[hq,qe];rfl,?_⟩;rw[hq];rw[hexC_getD om,hexC_getD om];exact hS.step c' _ rfl
   have hq:Xy c'=[c']:=by unfold Xy;rw[if_neg k8,if_neg];have h9:=hb;simp at h9;omega
   refine ZP zs [0,1,4,5,6,7] fun K V=> ?_
   try simp only[go_sem,seval,hR1,hszs,wdAV,hszb,e0,hS0,hS1,hS2,hS3,hx,qb,f1,f2,f3,f4,f5,f6,f7,f8,f9,g1,g2,g3,g4,g5,g6,g7,g8,g9,qd,e34]
   repeat (first | (refine And.intro ?_ ?_;· first | exact⟨rfl,by simp[AV.sz,AV.memOK]⟩ | exact⟨om,.inr trivial,om,om⟩) | refine peel ?_)
   apply V;clear V K;refine ns ?_;refine ns ?_;refine⟨i',f',s1++[c'],x1++Xy c',v2+1,v3+1,q1,q2,om,q4,oz,by have:=WQ c';simp;omega,by rw[hq,qe];rfl,?_⟩;rw[hq];exact hS.step c' _ rfl
  rintro T2 H2 n2 ⟨i',f',s',x',v2',v3',q1,q2,q3,q4,q5,q6,rfl,q7,rfl⟩;have hx:IntKind.i64.wrap ((i':Int)+1)=((i'+1:Nat):Int):=w1 om;refine rg1 zs [0,1,4,5,6,7] ?_;exact⟨⟨i'+1,f',s',x',v2',v3',om,om,om,q4,q5,q6,rfl,q7⟩,by first | omega | (simp;omega)⟩
 have hge:t.length≤i:=otf;refine ax ?_;apply hK1;refine rk zs [4,5] fun K V=> ?_;refine Zw (args':=[.int .i64 p]) func80 rfl rfl rfl (Ye p _ _) ?_ ?_
 ·rintro rr H' n' ⟨rfl,rfl,h1⟩;cases h1
 rintro q H' n' ⟨rfl,rfl,h1⟩;cases h1;refine QdE.err ?_ om (fun k e1 e2 e3=>hS.low k e1);rw[hr,←hgi,strG_end hge];rfl
theorem NQa0.eqs{P Q:Prop}(g:Imp P Q:=by(try simp only[go_sem,seval,qd,Option.getD_some,Option.getD_none,List.drop_zero]);exact Imp.rf):Imp P Q:=g
theorem NQa0.sd{P:Prop}(g:P:=by first | (intros;simp_all;done) | fail):P:=g
open NQa0 NZ in
theorem PT(a b:List UInt8)(hb:b.length≤1099511627776)(H:Heap)(n:Nat):Ret prog 141 [.str a,.str b] H n (.bool (b.isPrefixOf a)) H n:=by
 refine fw func141 ntmps141 results141 ?_;refine kb1 ?_;refine kag ?_;refine congrArg (fun b=>ARes.val (AV.bool b)) ?_;rw[Bool.eq_iff_iff,List.isPrefixOf_iff_prefix,List.prefix_iff_eq_take];by_cases h:b.length≤a.length
 ·rw[decide_eq_true om];simp;exact eq_comm
 ·rw[decide_eq_false om];simp;intro e;have:=congrArg List.length e;simp at this;omega
open N0 in
theorem JR(a b:List UInt8)(hb:b.length≤1099511627776)(H:Heap)(n:Nat):Ret prog 118 [.str a,.str b] H n (.bool (b.isPrefixOf a)) H n:=by
 refine fw func118 ntmps118 results118 ?_;refine kb1 ?_;refine rc zs [4] func141 ((PT a b hb _ _)) ?_;refine ar ?_;trivial
theorem wordF_end{t:List UInt8}{p q:Nat}(h:ZM (fun c=>c.toNat==32) t p=q)(hq:t.length≤q):XU t p= .ok (⟨0,q,[],0,[]⟩,q):=by
 unfold XU;simp only[h];rw[List.drop_eq_nil_of_le hq]
theorem wordF_at{t : List UInt8}{p q : Nat}(h : ZM (fun c => c.toNat == 32) t p = q)(hq : q < t.length): XU t p =
   if Wp (t.getD q 0)then .ok (⟨1,q,(t.drop q).takeWhile Xk,0,[]⟩,ZM Xk t q)
   else if ZA (t.getD q 0)then(match numF t q with | some x=> .ok x | none=> .error q)
   else if (t.getD q 0).toNat=34 then(match strF t q with | some x=> .ok x | none=> .error q)
   else match YO.find? (fun s=>s.isPrefixOf (t.drop q))with
     | some s=> .ok (⟨4,q,s,0,[]⟩,q+s.length)
     | none=> .error q:=by
 unfold XU;simp only[h];rw[drop_at hq]<;>rfl
theorem nth_signs{i:Nat}(h:i<9):nth [AV.str [33,61],AV.str [60,61],AV.str [62,61],AV.str [61],AV.str [60],AV.str [62],AV.str [94],AV.str [40],AV.str [41]] i=AV.str (YO.getD i []):=by
 exact kbK
theorem signs_len{i:Nat}(h:i<9):(YO.getD i []).length≤2:=by
 rcases(by omega:i=0∨i=1∨i=2∨i=3∨i=4∨i=5∨i=6∨i=7∨i=8)with rfl | rfl | rfl | rfl | rfl | rfl | rfl | rfl | rfl<;>decide
theorem signs_drop{i:Nat}(h:i<9):YO.drop i=YO.getD i []::YO.drop (i+1):=by
 exact kbK
theorem frzQ{H:Heap}{n:Nat}(fs:List Fml)(t:List UInt8)(a b c d e:Int)(tx:List UInt8){ko ver l:Nat}(hk:ko<n):Frz H n (.agg [Zh fs,.str t,.int .i64 a,.agg [.int .i64 b,.int .i64 c,.str tx,.int .i64 d,.nilsl],.osl ko ver 0 l,.int .i64 e]) (.agg [Zh fs,.str t,.int .i64 a,.agg [.int .i64 b,.int .i64 c,.str tx,.int .i64 d,.sl 1 []],.osl ko ver 0 l,.int .i64 e]):=
 .agg (.cons (.kl (kl_schQ fs n)) (.cons (.kl trivial) (.cons (.kl trivial) (.cons (.agg (.cons (.kl trivial) (.cons (.kl trivial) (.cons (.kl trivial) (.cons (.kl trivial) (.cons .nilsl .nil)))))) (.cons (.kl hk) (.cons (.kl trivial) .nil))))))
theorem NQa1.eqs{P Q:Prop}(g:Imp P Q:=by(try simp only[go_sem,seval,hR1,hszs,wdAV,hszb,hx,qd,Option.getD_some,Option.getD_none]);exact Imp.rf):Imp P Q:=g
set_option maxHeartbeats 1600000 in
open NQa1 NY in
theorem Lh(fs : List Fml)(t : List UInt8)(s : Qst)(kr ko ver : Nat)(ht : t.length ≤ 512)(hf : s.far ≤ t.length)(H : Heap)(n : Nat)(h : QdH fs t kr ko s ver H n):
   Zn prog 78 [.loc kr 0 0 0 []] H n (QdK fs t kr ko H n ((Ue t s).map fun x=>(.tup [],x))):=by
 have hR:=h.r;have hR1:=hR;unfold qdO at hR1;have hk:=h.lr;have hko:=h.lo;have hne:=h.ne;have hszs:(Zh fs).sz=1:=rfl;have hszb:∀b,(bys b).sz=1:=fun _=>rfl;have hw2:ZM (fun c=>c.toNat==32) t s.far≤t.length:=(XK (fun c=>c.toNat==32) t s.far hf).2;obtain⟨q,hq⟩:∃q,ZM (fun c=>c.toNat==32) t s.far=q:=⟨_,rfl⟩;rw[hq]at hw2;obtain⟨r,hr⟩:∃r,r=((Ue t s).map fun x=>((.tup []:AV),x)):=⟨_,rfl⟩;rw[←hr];unfold Ue at hr;have hcut:=U9 Xk t q;have hx:=hszs;have fin:∀{H1:Heap} {a:AV} {s2:Qst} {v2:Nat},(∀k,k≠kr→k≠ko→H1 k=H k)→H1 ko=some (outO s2 v2)→r= .ok (.tup [],s2)→Frz (H1.put kr (some (.arr 0 10 [a]))) n a (qdAV fs t s2 ko v2)→QdE fs t kr ko H n r (.val (.tup [])) (H1.put kr (some (.arr 0 10 [a]))) n:=fun h0 h1 h2 h3=>
   QdE.val h2 (Rm _ _ _) h3 (by rw[Rk _ _ hne.symm];exact h1) (fun k _ e2 e3=>(Rk _ _ e2).trans (h0 k e2 e3)) (.tup .nil)
 refine QdK.fin hk hko hne ?_;refine fw func78 ntmps78 results78 ?_;refine rc zs [0,2] func111 ((hq▸UD fs t s kr ko ver ht s.far hf (fun c=>c.toNat==32) _ func112 rfl rfl _ _ (fun b _ _=>c_query_blank b _ _) hR)) ?_;refine Za fun K1 hK1=> ?_;refine rg zs [0,2,18] ?_;refine Zb ?_ ?_<;>intro hb
 ·have hge:t.length≤q:=by have h9:=hb;simp at h9;omega
  rw[wordF_end hq hge]at hr;refine rg zs [] ?_;refine ar ?_;exact fin (s2:={s with far:=q,nxt:=⟨0,q,[],0,[]⟩}) (fun _ _ _=>rfl) h.o hr (frzQ _ _ _ _ _ _ _ _ hko)
 have hlt:q<t.length:=by have h9:=hb;simp at h9;omega
 rw[wordF_at hq hlt]at hr;obtain⟨c,hc⟩:∃c,c=t.getD q 0:=⟨_,rfl⟩;rw[←hc]at hr;have hcl:=c.toNat_lt;refine ak ?_;apply hK1;refine Zg zs [0,2,3] fun K V=> ?_
 try simp only[go_sem,seval,hR1,hszs,wdAV,hszb,hx,qd,Option.getD_some,Option.getD_none,←hc]
 repeat (first | (refine And.intro ?_ ?_;· first | exact⟨om,om⟩) | refine peel ?_)
 apply V;clear V K;refine Zq ?_;refine rc zs [0,2,3,62] func113 ((J5 c _ _)) ?_;refine Zb ?_ ?_<;>intro hb
 ·rw[if_pos hb]at hr;obtain⟨u1,u2⟩:=XK Xk t q om;refine rk zs [0,2] fun K V=> ?_;refine ck func111 ((UD fs t s kr ko ver ht q om Xk _ func114 rfl rfl _ _ (fun b _ _=>c_query_name b _ _) hR)) ?_;apply V;clear V K;refine U4 rfl zs [] [.m,.m,.m,.q,.q,.q,.m,.m,.q,.q,.q,.q,.q,.q,.q,.w []] [0,1,2,3,4,5,6,7,8,9,10,11,12,13,14,15] [0,1,2,3,4,5,6,7,8,9,10,11,12,13,14,15] (by kernel_rfl) (fun _ _ _ _ _ h=>h) fun K V=> ?_
  try simp only[go_sem,seval,hR1,hszs,wdAV,hszb,hx,qd,Option.getD_some,Option.getD_none,hcut]
  repeat (first | (refine And.intro ?_ ?_;· first | exact⟨om,om,om⟩) | refine peel ?_)
  apply V;clear V K;refine ns ?_;exact fin (s2:={s with far:=ZM Xk t q,nxt:=⟨1,q,(t.drop q).takeWhile Xk,0,[]⟩}) (fun _ _ _=>rfl) h.o hr (frzQ _ _ _ _ _ _ _ _ hko)
 rw[if_neg (by rw[hb];simp)]at hr;refine rc zs [0,2,3,86] func115 ((UF c _ _)) ?_;refine Zb ?_ ?_<;>intro hb
 ·rw[if_pos hb]at hr;refine rk1 zs [] fun K V=> ?_;refine cK func116 (P5 fs t s kr ko ver ht q om _ _ h) ?_ ?_
  ·rintro q9 H' n' hc;refine hc.up (fun p9 he=> ?_) (Nat.le_refl _) (fun _ _ _ _=>rfl);cases hn:numF t q with
   | none=>rw[hn]at he hr;cases he;exact hr
   | some x=>rw[hn]at he;cases he
  rintro rr H1 n1 hc;obtain⟨s2,v2,he,h2,rfl,hl⟩:=hc.get h;have hR1:=h2.r;have hO2:=h2.o;unfold qdO at hR1;obtain⟨x,hn⟩:∃x,numF t q=some x:=by
    cases hn:numF t q with
    | none=>rw[hn]at he;cases he
    | some x=>exact⟨x,rfl⟩
  rw[hn]at he hr;cases he;refine nz ?_;apply V;clear V K;refine ns ?_;exact fin (s2:={s with far:=x.2,nxt:=x.1}) hl hO2 hr (.kl (KU fs t {s with far:=x.2,nxt:=x.1} (ver:=v2) hko))
 rw[if_neg (by rw[hb];simp)]at hr;refine rg zs [0,2,95] ?_;refine Zb ?_ ?_<;>intro hb
 ·have k0:c.toNat=34:=by have h9:=hb;simp at h9;omega
  rw[if_pos k0]at hr;refine rk1 zs [] fun K V=> ?_;refine cK func117 (c_query_str fs t s kr ko ver ht q hlt _ _ h) ?_ ?_
  ·rintro q9 H' n' hc;refine hc.up (fun p9 he=> ?_) (Nat.le_refl _) (fun _ _ _ _=>rfl);cases hn:strF t q with
   | none=>rw[hn]at he hr;cases he;exact hr
   | some x=>rw[hn]at he;cases he
  rintro rr H1 n1 hc;obtain⟨s2,v2,he,h2,rfl,hl⟩:=hc.get h;have hR1:=h2.r;have hO2:=h2.o;unfold qdO at hR1;obtain⟨x,hn⟩:∃x,strF t q=some x:=by
    cases hn:strF t q with
    | none=>rw[hn]at he;cases he
    | some x=>exact⟨x,rfl⟩
  rw[hn]at he hr;cases he;refine nz ?_;apply V;clear V K;refine ns ?_;exact fin (s2:={s with far:=x.2,nxt:=x.1}) hl hO2 hr (.kl (KU fs t {s with far:=x.2,nxt:=x.1} (ver:=v2) hko))
 have k0:¬c.toNat=34:=by have h9:=hb;simp at h9;omega
 rw[if_neg k0]at hr;refine Za fun K2 hK2=> ?_;refine rg zs [0,2,34,35] ?_;refine Zq ?_;refine Zk (fun T' H' n'=>∃i:Nat,i≤9∧YO.find? (fun s=>s.isPrefixOf (t.drop q))=(YO.drop i).find? (fun s=>s.isPrefixOf (t.drop q))∧T'=tl [(0,.loc kr 0 0 0 []),(2,.int .i64 q),(34,.agg [AV.str [33,61],AV.str [60,61],AV.str [62,61],AV.str [61],AV.str [60],AV.str [62],AV.str [94],AV.str [40],AV.str [41]]),(35,.int .i64 i)]∧H'=H∧n'=n) (fun T' _ _=>9-iv (T' 35)) ?_ ?_
 ·exact⟨0,om,rfl,rfl,rfl,rfl⟩
 rintro T1 H1 n1 ⟨i,hi,hfd,rfl,rfl,rfl⟩;refine rg zs [0,2,34,35,36] ?_;refine Za fun K3 hK3=> ?_;refine Zb ?_ ?_<;>intro hb
 ·have hi9:i<9:=ott;have hnth:=nth_signs hi9;have hsl:=signs_len hi9;rw[signs_drop hi9]at hfd;have hx:IntKind.i64.wrap ((i:Int)+1)=((i+1:Nat):Int):=w1 om;refine ak ?_;apply hK3;refine bk fun K4 hK4=> ?_;refine Zg zs [0,2,5,34,35] fun K V=> ?_
  try simp only[go_sem,seval,hR1,hszs,wdAV,hszb,hx,qd,Option.getD_some,Option.getD_none,hnth]
  repeat (first | (refine And.intro ?_ ?_;· first | exact⟨om,om,by simp[AV.sz],by simp[AV.isAgg]⟩) | refine peel ?_)
  apply V;clear V K;refine Zg zs [0,2,5,34,35,45] fun K V=> ?_
  try simp only[go_sem,seval,hR1,hszs,wdAV,hszb,hx,qd,Option.getD_some,Option.getD_none,List.take_length]
  repeat (first | (refine And.intro ?_ ?_;· first | exact⟨om,om,om⟩) | refine peel ?_)
  refine Zu func118 rfl rfl rfl ((JR (t.drop q) (YO.getD i []) om _ _)) ?_
  try simp only[go_sem,seval,hR1,hszs,wdAV,hszb,hx,qd,Option.getD_some,Option.getD_none,List.take_length]
  repeat refine peel ?_
  apply V;clear V K;refine Zb ?_ ?_<;>intro hb
  ·rw[List.find?_cons_of_pos osb]at hfd;rw[hfd]at hr;have hx:IntKind.i64.wrap ((q:Int)+((YO.getD i []).length:Int))=((q+(YO.getD i []).length:Nat):Int):=by rw[w64 om om];omega
   refine rg zs [] ?_;refine ar ?_;exact fin (s2:={s with far:=q+(YO.getD i []).length,nxt:=⟨4,q,YO.getD i [],0,[]⟩}) (fun _ _ _=>rfl) h.o hr (frzQ _ _ _ _ _ _ _ _ hko)
  rw[List.find?_cons_of_neg (by rw[hb];simp)]at hfd;refine ak ?_;apply hK4;refine rg1 zs [0,2,34,35] ?_;exact⟨⟨i+1,om,hfd,rfl⟩,om⟩
 have hi9:i=9:=otf;refine ax ?_;apply hK2;refine rk1 zs [] fun K V=> ?_;refine Zw (args':=[.int .i64 q]) func80 rfl rfl rfl (Ye q _ _) ?_ ?_
 ·rintro rr H' n' ⟨rfl,rfl,h1⟩;cases h1
 rintro q9 H' n' ⟨rfl,rfl,h1⟩;cases h1;refine QdE.err ?_ (Nat.le_refl _) (fun k _ _ _=>rfl);subst hi9;rw[hr,hfd];rfl
theorem Yv{ε α β:Type}{f:α→β}{x:Except ε α}{p:ε}(h:x.map f= .error p):x= .error p:=by
 cases x with
 | error e=>cases h;rfl
 | ok a=>cases h
theorem bind_err{ε α β:Type}{f:α→Except ε β}{x:Except ε α}{p:ε}(h:x= .error p):x.bind f= .error p:=by rw[h];rfl
theorem QdK.got{fs:List Fml}{t:List UInt8}{kr ko:Nat}{H H':Heap}{n n':Nat}{r:Except Nat (AV×Qst)}{v:AV}(hk:QdK fs t kr ko H n r (.val v) H' n')(h1:kr<n)(h2:ko<n)(h3:kr≠ko):∃s ver,r= .ok (v,s)∧QdH fs t kr ko s ver H' n∧n=n'∧∀k,k≠kr→k≠ko→H' k=H k:=by
 obtain⟨s,ver,h1',rfl,rfl⟩:=hk.val;refine⟨s,ver,h1',⟨h1,h2,h3,Rm _ _ _,?_⟩,rfl,fun k e1 e2=> ?_⟩<;>unfold qst
 ·rw[Rk _ _ h3.symm,Rm]
 ·rw[Rk _ _ e1,Rk _ _ e2]
theorem NQb0.eqs{P Q:Prop}(g:Imp P Q:=by(try simp only[go_sem,seval,hR1,hO1,hszs,hszb,hB,wdAV,g1,g2,g3,g4,g5,g6,g7,g8,g9,f1,f2,f3,e1,qb]);exact Imp.rf):Imp P Q:=g
theorem NQb0.sd{P:Prop}(g:P:=by first | exact⟨rfl,by(simp[AV.sz,AV.szs,AV.memOK,wdAV,bys];first | done | fail)⟩ | exact⟨om,.inr trivial,om,om⟩ | fail):P:=g
open NQb0 NZ in
theorem YF(fs : List Fml)(t : List UInt8)(s : Qst)(kr ko ver : Nat)(ht : t.length ≤ 512)(hf : s.far ≤ t.length)(hl : s.out.length ≤ 1000000)(H : Heap)(n : Nat)(h : QdH fs t kr ko s ver H n):
   Zn prog 121 [.loc kr 0 0 0 []] H n (QdK fs t kr ko H n ((YK t s).map fun x=>(wdAV x.1,x.2))):=by
 have hR1:=h.r;unfold qdO at hR1;have hO1:=h.o;unfold outO at hO1;have hk:=h.lr;have hko:=h.lo;have hne:=h.ne;have hszs:(Zh fs).sz=1:=rfl;have hszb:∀b,(bys b).sz=1:=fun _=>rfl;have g1:(kr=n)=False:=oz;have g2:(kr=n+1)=False:=oz;have g3:(ko=n)=False:=oz;have g4:(ko=n+1)=False:=oz;have g5:(n=n+1)=False:=osi;have g6:(n+1=n)=False:=osi;have g7:(kr=ko)=False:=oz;have g8:(ko=kr)=False:=oz;have g9:(n=kr)=False:=oz;have f1:(n+1=kr)=False:=oz;have f2:(n=ko)=False:=oz;have f3:(n+1=ko)=False:=oz;have e1:List.take s.out.length (List.map wdAV s.out)=List.map wdAV s.out:=List.take_of_length_le osi;have hB:=hszs;obtain⟨r,hr⟩:∃r,r=((YK t s).map fun x=>(wdAV x.1,x.2)):=⟨_,rfl⟩;rw[←hr];unfold YK at hr;refine QdK.fin hk hko hne ?_;refine fw func121 ntmps121 results121 ?_;refine rg zs [0,2] ?_;refine rg zs [0,2,3] ?_;refine dx zs [0,2,3] [.m,.m,.q,.q,.q,.q,.q,.w [],.q,.q,.w []] [0,1,2,3,4,5,6,7,8,9,10] [0,1,2,3,4,5,6,7,8,9,10] fun K V=> ?_;apply V;clear V K;refine rk zs [2,3] fun K V=> ?_;refine Zw (args':=[.loc kr 0 0 0 []]) func78 rfl rfl rfl (Lh fs t {s with out:=s.out++[s.nxt]} kr ko (ver+1) ht hf _ _ ?_) ?_ ?_
 ·exact⟨om,om,hne,by rw[Rm];simp only[qdO,qe,qh];rfl,by rw[Rk _ _ hne.symm,Rm];simp only[outO,qj];rfl⟩
 rotate_left
 ·rintro q9 H' n' hc;refine hc.up (fun p9 he=> ?_) om (fun k e1 e2 e3=>by simp only[Rl];(repeat rw[if_neg om]));rw[Yv he]at hr;exact hr
 rintro rr H1 n1 hc;obtain⟨s2,v2,he,h2,rfl,hl2⟩:=hc.got om om hne;have hB:H1 (n+1)=some (.arr 0 5 [wdAV s.nxt]):=(hl2 _ om om).trans (by rw[Rk _ _ om,Rk _ _ om,Rm];rfl);have hR1:H1 n=some (.arr 0 5 [.agg [.int .i64 0,.int .i64 0,.str [],.int .i64 0,.nilsl]]):=(hl2 _ om om).trans (by rw[Rk _ _ om,Rk _ _ om,Rk _ _ om,Rm]);obtain⟨x,hx,hy⟩:=map_ok he;cases hy;rw[hx]at hr;refine nz ?_;apply V;clear V K;refine rg zs [2] ?_;refine ar ?_;exact QdE.ok (s:=s2) hr (h2.on (Rk _ _ om) (Rk _ _ om) (Nat.le_refl _)) hko (fun k e1 e2 e3=>(Rk _ _ om).trans ((hl2 k e2 e3).trans (by simp only[Rl];(repeat rw[if_neg om])))) (.kl (Nf _ _))
theorem NQc0.eqs{P Q:Prop}(g:Imp P Q:=by(try simp only[go_sem,seval,hR1,hszs,hszb,wdAV,e0]);exact Imp.rf):Imp P Q:=g
open NQc0 NY in
theorem Li(fs : List Fml)(t : List UInt8)(s : Qst)(kr ko ver : Nat)(ht : t.length ≤ 512)(hf : s.far ≤ t.length)(hl : s.out.length ≤ 1000000)(hd : s.deep ≤ 1000)(H : Heap)(n : Nat)(h : QdH fs t kr ko s ver H n):
   Zn prog 153 [.loc kr 0 0 0 []] H n (QdK fs t kr ko H n ((Q4 t s).map fun x=>(.tup [],x))):=by
 have hR1:=h.r;unfold qdO at hR1;have hk:=h.lr;have hko:=h.lo;have hne:=h.ne;have hszs:(Zh fs).sz=1:=rfl;have hszb:∀b,(bys b).sz=1:=fun _=>rfl;have e0:IntKind.i64.wrap ((s.deep:Int)+1)=((s.deep+1:Nat):Int):=by rw[w64 om om];omega
 obtain⟨r,hr⟩:∃r,r=((Q4 t s).map fun x=>((.tup []:AV),x)):=⟨_,rfl⟩;rw[←hr];unfold Q4 at hr;refine QdK.fin hk hko hne ?_;refine fw func153 ntmps153 results153 ?_;refine rg zs [0] ?_;refine Za fun K1 hK1=> ?_;refine rg zs [0,13] ?_;refine Zb ?_ ?_<;>intro hb
 ·have hb1:16<s.deep+1:=ott;rw[if_pos hb1]at hr;refine rk1 zs [0] fun K V=> ?_;refine Zw (args':=[.int .i64 s.nxt.pos]) func80 rfl rfl rfl (Ye s.nxt.pos _ _) ?_ ?_
  ·rintro rr H' n' ⟨rfl,rfl,h1⟩;cases h1
  rintro q9 H' n' ⟨rfl,rfl,h1⟩;cases h1;exact QdE.err hr (Nat.le_refl _) (fun k _ e2 _=>Rk _ _ e2)
 have hb1:¬16<s.deep+1:=otf;rw[if_neg hb1]at hr;refine ak ?_;apply hK1;refine rk1 zs [] fun K V=> ?_;refine Zw (args':=[.loc kr 0 0 0 []]) func121 rfl rfl rfl (YF fs t {s with deep:=s.deep+1} kr ko ver ht hf hl _ _ ?_) ?_ ?_
 ·exact⟨hk,hko,hne,Rm _ _ _,by rw[Rk _ _ hne.symm];exact h.o⟩
 rotate_left
 ·rintro q9 H' n' hc;exact hc.up (fun p9 he=>by rw[Yv he]at hr;exact hr) (Nat.le_refl _) (fun k _ e2 _=>Rk _ _ e2)
 rintro rr H1 n1 hc;obtain⟨s2,v2,he,h2,rfl,hl2⟩:=hc.got hk hko hne;obtain⟨x,hx,hy⟩:=map_ok he;cases hy;rw[hx]at hr;refine nz ?_;apply V;clear V K;refine ns ?_;exact QdE.ok hr h2 hko (fun k e1 e2 e3=>(hl2 k e2 e3).trans (Rk _ _ e2)) (.tup .nil)
theorem NQc1.eqs{P Q:Prop}(g:Imp P Q:=by(try simp only[go_sem,seval,hR1,hszs,hszb,wdAV,g1]);exact Imp.rf):Imp P Q:=g
open NQc1 NY in
theorem Lg(fs : List Fml)(t : List UInt8)(s : Qst)(kr ko ver : Nat)(ht : t.length ≤ 512)(hf : s.far ≤ t.length)(hl : s.out.length ≤ 1000000)(w : Nat)(H : Heap)(n : Nat)(h : QdH fs t kr ko s ver H n):
   Zn prog 161 [.loc kr 0 0 0 [],.int .i64 w] H n (QdK fs t kr ko H n ((Kt t w s).map fun x=>(wdAV x.1,x.2))):=by
 have hR1:=h.r;unfold qdO at hR1;have hk:=h.lr;have hko:=h.lo;have hne:=h.ne;have hszs:(Zh fs).sz=1:=rfl;have hszb:∀b,(bys b).sz=1:=fun _=>rfl;have g1:(kr=n)=False:=oz;obtain⟨r,hr⟩:∃r,r=((Kt t w s).map fun x=>(wdAV x.1,x.2)):=⟨_,rfl⟩;rw[←hr];unfold Kt at hr;refine QdK.fin hk hko hne ?_;refine fw func161 ntmps161 results161 ?_;refine rg zs [0,1,4] ?_;refine Za fun K1 hK1=> ?_;refine rg zs [0,4,11] ?_;refine Zb ?_ ?_<;>intro hb
 ·have hb1:¬s.nxt.kind=w:=by have h9:=hb;simp at h9;omega
  rw[if_neg hb1]at hr;refine rk1 zs [0,4] fun K V=> ?_;refine Zw (args':=[.int .i64 s.nxt.pos]) func80 rfl rfl rfl (Ye s.nxt.pos _ _) ?_ ?_
  ·rintro rr H' n' ⟨rfl,rfl,h1⟩;cases h1
  rintro q9 H' n' ⟨rfl,rfl,h1⟩;cases h1;exact QdE.err hr om (fun k _ e2 _=>Rk _ _ om)
 have hb1:s.nxt.kind=w:=by have h9:=hb;simp at h9;omega
 rw[if_pos hb1]at hr;refine ak ?_;apply hK1;refine rk zs [4] fun K V=> ?_;refine Zw (args':=[.loc kr 0 0 0 []]) func121 rfl rfl rfl (YF fs t s kr ko ver ht hf hl _ _ ?_) ?_ ?_
 ·exact h.low (fun k hk9=>Rk _ _ om) om
 rotate_left
 ·rintro q9 H' n' hc;exact hc.up (fun p9 he=>by rw[Yv he]at hr;exact hr) om (fun k _ e2 _=>Rk _ _ om)
 rintro rr H1 n1 hc;obtain⟨s2,v2,he,h2,rfl,hl2⟩:=hc.got om om hne;have hR1:H1 n=some (.arr 0 5 [.agg [.int .i64 0,.int .i64 0,.str [],.int .i64 0,.nilsl]]):=(hl2 _ om om).trans (Rm _ _ _);obtain⟨x,hx,hy⟩:=map_ok he;cases hy;rw[hx]at hr;refine nz ?_;apply V;clear V K;refine ar ?_;exact QdE.ok (v':=wdAV x.1) hr (h2.on (Rk _ _ om) (Rk _ _ om) (Nat.le_refl _)) hko (fun k e1 e2 e3=>(Rk _ _ om).trans ((hl2 k e2 e3).trans (Rk _ _ om))) (.kl (Nf _ _))
theorem NQc2.eqs{P Q:Prop}(g:Imp P Q:=by(try simp only[go_sem,seval,hR1,hszs,hszb,wdAV,hx,hnth,qb,qd]);exact Imp.rf):Imp P Q:=g
open NQc2 NY in
theorem Qv(fs : List Fml)(t : List UInt8)(s : Qst)(kr ko ver : Nat)(ht : t.length ≤ 512)(hf : s.far ≤ t.length)(hl : s.out.length ≤ 1000000)(ws : List (List UInt8))(hws : ws.length ≤ 100)(H : Heap)(n : Nat)(h : QdH fs t kr ko s ver H n):
   Zn prog 159 [.loc kr 0 0 0 [],.sl 1 (ws.map .str)] H n (QdK fs t kr ko H n ((JV t ws s).map fun x=>(.str x.1,x.2))):=by
 have hR1:=h.r;unfold qdO at hR1;have hk:=h.lr;have hko:=h.lo;have hne:=h.ne;have hszs:(Zh fs).sz=1:=rfl;have hszb:∀b,(bys b).sz=1:=fun _=>rfl;have hx:=hszs;have hnth:=hszs;obtain⟨r,hr⟩:∃r,r=((JV t ws s).map fun x=>(AV.str x.1,x.2)):=⟨_,rfl⟩;rw[←hr];unfold JV at hr;refine QdK.fin hk hko hne ?_;refine fw func159 ntmps159 results159 ?_;refine rg zs [0,1] ?_;refine Za fun K1 hK1=> ?_;refine rg zs [0,7,8,9] ?_;refine Zq ?_;refine Zk (fun T' H' n'=>∃i:Nat,i≤ws.length∧(∀j,j<i→¬(s.nxt.kind=4∧s.nxt.text=ws.getD j []))∧T'=tl [(0,.loc kr 0 0 0 []),(7,.sl 1 (ws.map .str)),(8,.int .i64 ws.length),(9,.int .i64 i)]∧H'=H∧n'=n) (fun T' _ _=>ws.length-iv (T' 9)) ?_ ?_
 ·exact⟨0,om,fun j hj=>absurd hj (Nat.not_lt_zero _),rfl,rfl,rfl⟩
 rintro T1 H1 n1 ⟨i,hi,hno,rfl,rfl,rfl⟩;refine rg zs [0,7,8,9,10] ?_;refine Za fun K2 hK2=> ?_;refine Zb ?_ ?_<;>intro hb
 ·have hlt:i<ws.length:=ott;have hnth:nth (ws.map AV.str) i=AV.str (ws.getD i []):=Zr AV.str ws _ hlt;have hx:IntKind.i64.wrap ((i:Int)+1)=((i+1:Nat):Int):=w1 om;refine ak ?_;apply hK2;refine bk fun K3 hK3=> ?_;refine rg zs [0,6,7,8,9] ?_;refine rg zs [0,7,8,9,27] ?_;refine Zb ?_ ?_<;>intro hb
  ·have hb1:s.nxt.kind=4∧s.nxt.text=ws.getD i []:=by have h9:=hb;simp at h9;exact⟨om,by simpa using h9.2⟩
   rw[if_pos ⟨hb1.1,by rw[hb1.2];simp[List.getD,hlt]⟩]at hr;refine rk zs [4] fun K V=> ?_;refine cK func121 (YF fs t s kr ko ver ht hf hl _ _ h) ?_ ?_
   ·rintro q9 H' n' hc;exact hc.up (fun p9 he=>by rw[Yv he]at hr;exact hr) (Nat.le_refl _) (fun k _ _ _=>rfl)
   rintro rr H1 n1 hc;obtain⟨s2,v2,he,h2,rfl,hl2⟩:=hc.got hk hko hne;obtain⟨x,hx,hy⟩:=map_ok he;cases hy;rw[hx]at hr;refine nz ?_;apply V;clear V K;refine ar ?_;exact QdE.ok hr h2 hko (fun k e1 e2 e3=>hl2 k e2 e3) (.kl trivial)
  have hb1:¬(s.nxt.kind=4∧s.nxt.text=ws.getD i []):=by rintro⟨e1,e2⟩;rw[e1,e2]at hb;simp at hb
  refine ak ?_;apply hK3;refine rg1 zs [0,7,8,9] ?_;exact⟨⟨i+1,om,fun j hj=>by rcases Nat.lt_or_ge j i with q | q;exact hno j q;(obtain rfl:j=i:=om);exact hb1,rfl⟩,om⟩
 have hge:i=ws.length:=otf;refine ax ?_;apply hK1;refine rk zs [] fun K V=> ?_;refine Zw (args':=[.int .i64 s.nxt.pos]) func80 rfl rfl rfl (Ye s.nxt.pos _ _) ?_ ?_
 ·rintro rr H' n' ⟨rfl,rfl,h1⟩;cases h1
 rintro q9 H' n' ⟨rfl,rfl,h1⟩;cases h1;have hno2:¬(s.nxt.kind=4∧s.nxt.text∈ws):=by
   rintro⟨e1,e2⟩;obtain⟨j,hj,he⟩:=List.mem_iff_getElem.1 e2;exact hno j om ⟨e1,by simp[List.getD,hj,he]⟩
 rw[if_neg hno2]at hr;exact QdE.err hr (Nat.le_refl _) (fun k _ _ _=>rfl)
end Go.Proofs.YtkmkbndcekklmaaGreatDoor