/- Own layer: facts of the program, reckoned. Of the program; no condition. -/
import Derived.Test.YtijhkfhflpmajaaGreatFB
import Derived.Test.YtijhkfhflpmajaaGreatChecked
import Derived.Test.YtijhkfhflpmajaaGreatFC
set_option linter.unusedSimpArgs false
set_option linter.unusedVariables false
namespace Go.Proofs.YtijhkfhflpmajaaGreat
open Go Go.Sx Go.Proofs
theorem tS_1 : tSome Tryz.prog 1 = true := by kernel_rfl
theorem tA_1 : tAgg Tryz.prog 1 = false := by kernel_rfl
theorem tZ_1 : tSz Tryz.prog 1 = some 1 := by kernel_rfl
theorem tS_3 : tSome Tryz.prog 3 = true := by kernel_rfl
theorem tA_3 : tAgg Tryz.prog 3 = false := by kernel_rfl
theorem tZ_3 : tSz Tryz.prog 3 = some 1 := by kernel_rfl
theorem tI_3 : tInt Tryz.prog 3 = some .i64 := by kernel_rfl
theorem tS_4 : tSome Tryz.prog 4 = true := by kernel_rfl
theorem tA_4 : tAgg Tryz.prog 4 = false := by kernel_rfl
theorem tZ_4 : tSz Tryz.prog 4 = some 1 := by kernel_rfl
theorem tBo_4 : tIsBool Tryz.prog 4 = true := by kernel_rfl
theorem tS_5 : tSome Tryz.prog 5 = true := by kernel_rfl
theorem tA_5 : tAgg Tryz.prog 5 = false := by kernel_rfl
theorem tZ_5 : tSz Tryz.prog 5 = some 1 := by kernel_rfl
theorem tS_9 : tSome Tryz.prog 9 = true := by kernel_rfl
theorem tA_9 : tAgg Tryz.prog 9 = false := by kernel_rfl
theorem tZ_9 : tSz Tryz.prog 9 = some 1 := by kernel_rfl
theorem tStr_9 : tIsStr Tryz.prog 9 = true := by kernel_rfl
theorem tS_25 : tSome Tryz.prog 25 = true := by kernel_rfl
theorem tA_25 : tAgg Tryz.prog 25 = false := by kernel_rfl
theorem tZ_25 : tSz Tryz.prog 25 = some 1 := by kernel_rfl
theorem tE_25 : tElem Tryz.prog 25 = some 3 := by kernel_rfl
theorem tEl_25 : tEl Tryz.prog 25 = some (3, 32) := by kernel_rfl
theorem tSl_25 : tIsSl Tryz.prog 25 = true := by kernel_rfl
theorem tS_27 : tSome Tryz.prog 27 = true := by kernel_rfl
theorem tA_27 : tAgg Tryz.prog 27 = true := by kernel_rfl
theorem tZ_27 : tSz Tryz.prog 27 = some 1 := by kernel_rfl
theorem tF_27_0 : tFld Tryz.prog 27 0 = some (0, 1) := by kernel_rfl
theorem tP_27_0 : tPlc Tryz.prog 27 0 = some (0, 1) := by kernel_rfl
theorem tSt_27 : tIsSt Tryz.prog 27 = true := by kernel_rfl
theorem tS_28 : tSome Tryz.prog 28 = true := by kernel_rfl
theorem tA_28 : tAgg Tryz.prog 28 = false := by kernel_rfl
theorem tZ_28 : tSz Tryz.prog 28 = some 1 := by kernel_rfl
theorem tE_28 : tElem Tryz.prog 28 = some 7 := by kernel_rfl
theorem tEl_28 : tEl Tryz.prog 28 = some (7, 104) := by kernel_rfl
theorem tSl_28 : tIsSl Tryz.prog 28 = true := by kernel_rfl
theorem tS_35 : tSome Tryz.prog 35 = true := by kernel_rfl
theorem tA_35 : tAgg Tryz.prog 35 = false := by kernel_rfl
theorem tZ_35 : tSz Tryz.prog 35 = some 1 := by kernel_rfl
theorem tE_35 : tElem Tryz.prog 35 = some 1 := by kernel_rfl
theorem tEl_35 : tEl Tryz.prog 35 = some (1, 24) := by kernel_rfl
theorem tSl_35 : tIsSl Tryz.prog 35 = true := by kernel_rfl
theorem tF_37_0 : tFld Tryz.prog 37 0 = some (0, 1) := by kernel_rfl
theorem tF_37_1 : tFld Tryz.prog 37 1 = some (1, 1) := by kernel_rfl
theorem tSt_37 : tIsSt Tryz.prog 37 = true := by kernel_rfl
theorem tS_62 : tSome Tryz.prog 62 = true := by kernel_rfl
theorem tA_62 : tAgg Tryz.prog 62 = true := by kernel_rfl
theorem tZ_62 : tSz Tryz.prog 62 = some 6 := by kernel_rfl
theorem tF_62_0 : tFld Tryz.prog 62 0 = some (0, 1) := by kernel_rfl
theorem tF_62_1 : tFld Tryz.prog 62 1 = some (1, 1) := by kernel_rfl
theorem tF_62_2 : tFld Tryz.prog 62 2 = some (2, 1) := by kernel_rfl
theorem tF_62_3 : tFld Tryz.prog 62 3 = some (3, 1) := by kernel_rfl
theorem tE_63 : tElem Tryz.prog 63 = some 1 := by kernel_rfl
theorem tEl_63 : tEl Tryz.prog 63 = some (1, 8) := by kernel_rfl
theorem tSl_63 : tIsSl Tryz.prog 63 = true := by kernel_rfl
theorem tS_67 : tSome Tryz.prog 67 = true := by kernel_rfl
theorem tA_67 : tAgg Tryz.prog 67 = false := by kernel_rfl
theorem tZ_67 : tSz Tryz.prog 67 = some 1 := by kernel_rfl
theorem tE_67 : tElem Tryz.prog 67 = some 1 := by kernel_rfl
theorem tEl_67 : tEl Tryz.prog 67 = some (1, 1) := by kernel_rfl
theorem tSl_67 : tIsSl Tryz.prog 67 = true := by kernel_rfl
theorem tBy_67 : tIsBy Tryz.prog 67 = true := by kernel_rfl
theorem tS_69 : tSome Tryz.prog 69 = true := by kernel_rfl
theorem tA_69 : tAgg Tryz.prog 69 = true := by kernel_rfl
theorem tZ_69 : tSz Tryz.prog 69 = some 7 := by kernel_rfl
theorem tF_69_0 : tFld Tryz.prog 69 0 = some (0, 1) := by kernel_rfl
theorem tP_69_0 : tPlc Tryz.prog 69 0 = some (0, 1) := by kernel_rfl
theorem tF_69_1 : tFld Tryz.prog 69 1 = some (1, 1) := by kernel_rfl
theorem tP_69_1 : tPlc Tryz.prog 69 1 = some (1, 1) := by kernel_rfl
theorem tF_69_2 : tFld Tryz.prog 69 2 = some (2, 1) := by kernel_rfl
theorem tP_69_2 : tPlc Tryz.prog 69 2 = some (2, 1) := by kernel_rfl
theorem tF_69_3 : tFld Tryz.prog 69 3 = some (3, 1) := by kernel_rfl
theorem tP_69_3 : tPlc Tryz.prog 69 3 = some (3, 1) := by kernel_rfl
theorem tF_69_4 : tFld Tryz.prog 69 4 = some (4, 1) := by kernel_rfl
theorem tP_69_4 : tPlc Tryz.prog 69 4 = some (4, 1) := by kernel_rfl
theorem tF_69_5 : tFld Tryz.prog 69 5 = some (5, 1) := by kernel_rfl
theorem tP_69_5 : tPlc Tryz.prog 69 5 = some (5, 1) := by kernel_rfl
theorem tF_69_6 : tFld Tryz.prog 69 6 = some (6, 1) := by kernel_rfl
theorem tSt_69 : tIsSt Tryz.prog 69 = true := by kernel_rfl
theorem tS_81 : tSome Tryz.prog 81 = true := by kernel_rfl
theorem tA_81 : tAgg Tryz.prog 81 = false := by kernel_rfl
theorem tZ_81 : tSz Tryz.prog 81 = some 1 := by kernel_rfl
theorem tF_87_0 : tFld Tryz.prog 87 0 = some (0, 1) := by kernel_rfl
theorem tP_87_0 : tPlc Tryz.prog 87 0 = some (0, 1) := by kernel_rfl
theorem tF_87_1 : tFld Tryz.prog 87 1 = some (1, 1) := by kernel_rfl
theorem tP_87_1 : tPlc Tryz.prog 87 1 = some (1, 1) := by kernel_rfl
theorem tF_87_2 : tFld Tryz.prog 87 2 = some (2, 1) := by kernel_rfl
theorem tF_87_3 : tFld Tryz.prog 87 3 = some (3, 1) := by kernel_rfl
theorem tF_87_4 : tFld Tryz.prog 87 4 = some (4, 7) := by kernel_rfl
theorem tF_87_5 : tFld Tryz.prog 87 5 = some (11, 1) := by kernel_rfl
theorem tSt_87 : tIsSt Tryz.prog 87 = true := by kernel_rfl
theorem tS_88 : tSome Tryz.prog 88 = true := by kernel_rfl
theorem tA_88 : tAgg Tryz.prog 88 = false := by kernel_rfl
theorem tZ_88 : tSz Tryz.prog 88 = some 1 := by kernel_rfl
theorem tS_92 : tSome Tryz.prog 92 = true := by kernel_rfl
theorem tA_92 : tAgg Tryz.prog 92 = true := by kernel_rfl
theorem tZ_92 : tSz Tryz.prog 92 = some 5 := by kernel_rfl
theorem tF_92_0 : tFld Tryz.prog 92 0 = some (0, 1) := by kernel_rfl
theorem tP_92_0 : tPlc Tryz.prog 92 0 = some (0, 1) := by kernel_rfl
theorem tF_92_1 : tFld Tryz.prog 92 1 = some (1, 1) := by kernel_rfl
theorem tF_92_2 : tFld Tryz.prog 92 2 = some (2, 1) := by kernel_rfl
theorem tF_92_3 : tFld Tryz.prog 92 3 = some (3, 1) := by kernel_rfl
theorem tF_92_4 : tFld Tryz.prog 92 4 = some (4, 1) := by kernel_rfl
theorem tSt_92 : tIsSt Tryz.prog 92 = true := by kernel_rfl
theorem tF_94_0 : tFld Tryz.prog 94 0 = some (0, 1) := by kernel_rfl
theorem tP_94_0 : tPlc Tryz.prog 94 0 = some (0, 1) := by kernel_rfl
theorem tF_94_1 : tFld Tryz.prog 94 1 = some (1, 1) := by kernel_rfl
theorem tP_94_1 : tPlc Tryz.prog 94 1 = some (1, 1) := by kernel_rfl
theorem tF_94_2 : tFld Tryz.prog 94 2 = some (2, 1) := by kernel_rfl
theorem tF_94_3 : tFld Tryz.prog 94 3 = some (3, 5) := by kernel_rfl
theorem tF_94_4 : tFld Tryz.prog 94 4 = some (8, 1) := by kernel_rfl
theorem tSt_94 : tIsSt Tryz.prog 94 = true := by kernel_rfl
theorem tF_99_0 : tFld Tryz.prog 99 0 = some (0, 1) := by kernel_rfl
theorem tSt_99 : tIsSt Tryz.prog 99 = true := by kernel_rfl
theorem tS_100 : tSome Tryz.prog 100 = true := by kernel_rfl
theorem tA_100 : tAgg Tryz.prog 100 = false := by kernel_rfl
theorem tZ_100 : tSz Tryz.prog 100 = some 1 := by kernel_rfl
theorem tS_101 : tSome Tryz.prog 101 = true := by kernel_rfl
theorem tA_101 : tAgg Tryz.prog 101 = false := by kernel_rfl
theorem tZ_101 : tSz Tryz.prog 101 = some 1 := by kernel_rfl
theorem tF_103_0 : tFld Tryz.prog 103 0 = some (0, 1) := by kernel_rfl
theorem tP_103_0 : tPlc Tryz.prog 103 0 = some (0, 1) := by kernel_rfl
theorem tF_103_1 : tFld Tryz.prog 103 1 = some (1, 1) := by kernel_rfl
theorem tP_103_1 : tPlc Tryz.prog 103 1 = some (1, 1) := by kernel_rfl
theorem tF_103_2 : tFld Tryz.prog 103 2 = some (2, 1) := by kernel_rfl
theorem tP_103_2 : tPlc Tryz.prog 103 2 = some (2, 1) := by kernel_rfl
theorem tSt_103 : tIsSt Tryz.prog 103 = true := by kernel_rfl
theorem tZ_105 : tSz Tryz.prog 105 = some 8 := by kernel_rfl
theorem tF_105_0 : tFld Tryz.prog 105 0 = some (0, 7) := by kernel_rfl
theorem tP_105_0 : tPlc Tryz.prog 105 0 = some (0, 7) := by kernel_rfl
theorem tF_105_1 : tFld Tryz.prog 105 1 = some (7, 1) := by kernel_rfl
theorem tP_105_1 : tPlc Tryz.prog 105 1 = some (7, 1) := by kernel_rfl
theorem tSt_105 : tIsSt Tryz.prog 105 = true := by kernel_rfl
theorem tF_107_0 : tFld Tryz.prog 107 0 = some (0, 1) := by kernel_rfl
theorem tP_107_0 : tPlc Tryz.prog 107 0 = some (0, 1) := by kernel_rfl
theorem tF_107_1 : tFld Tryz.prog 107 1 = some (1, 1) := by kernel_rfl
theorem tP_107_1 : tPlc Tryz.prog 107 1 = some (1, 1) := by kernel_rfl
theorem tF_107_2 : tFld Tryz.prog 107 2 = some (2, 3) := by kernel_rfl
theorem tP_107_2 : tPlc Tryz.prog 107 2 = some (2, 3) := by kernel_rfl
theorem tF_107_3 : tFld Tryz.prog 107 3 = some (5, 1) := by kernel_rfl
theorem tF_107_4 : tFld Tryz.prog 107 4 = some (6, 7) := by kernel_rfl
theorem tF_107_5 : tFld Tryz.prog 107 5 = some (13, 1) := by kernel_rfl
theorem tF_107_6 : tFld Tryz.prog 107 6 = some (14, 1) := by kernel_rfl
theorem tF_107_7 : tFld Tryz.prog 107 7 = some (15, 1) := by kernel_rfl
theorem tF_107_8 : tFld Tryz.prog 107 8 = some (16, 1) := by kernel_rfl
theorem tF_107_9 : tFld Tryz.prog 107 9 = some (17, 8) := by kernel_rfl
theorem tSt_107 : tIsSt Tryz.prog 107 = true := by kernel_rfl
theorem tPt_116 : tIsPtr Tryz.prog 116 = true := by kernel_rfl
theorem tS_122 : tSome Tryz.prog 122 = true := by kernel_rfl
theorem tA_122 : tAgg Tryz.prog 122 = true := by kernel_rfl
theorem tZ_122 : tSz Tryz.prog 122 = some 3 := by kernel_rfl
theorem tF_122_0 : tFld Tryz.prog 122 0 = some (0, 1) := by kernel_rfl
theorem tP_122_0 : tPlc Tryz.prog 122 0 = some (0, 1) := by kernel_rfl
theorem tF_122_1 : tFld Tryz.prog 122 1 = some (1, 1) := by kernel_rfl
theorem tP_122_1 : tPlc Tryz.prog 122 1 = some (1, 1) := by kernel_rfl
theorem tF_122_2 : tFld Tryz.prog 122 2 = some (2, 1) := by kernel_rfl
theorem tP_122_2 : tPlc Tryz.prog 122 2 = some (2, 1) := by kernel_rfl
theorem tSt_122 : tIsSt Tryz.prog 122 = true := by kernel_rfl
theorem tM_124 : tMap Tryz.prog 124 = some (.int .i64, 69) := by kernel_rfl
theorem tS_138 : tSome Tryz.prog 138 = true := by kernel_rfl
theorem tA_138 : tAgg Tryz.prog 138 = true := by kernel_rfl
theorem tZ_138 : tSz Tryz.prog 138 = some 12 := by kernel_rfl
theorem tF_138_0 : tFld Tryz.prog 138 0 = some (0, 7) := by kernel_rfl
theorem tP_138_0 : tPlc Tryz.prog 138 0 = some (0, 7) := by kernel_rfl
theorem tF_138_1 : tFld Tryz.prog 138 1 = some (7, 1) := by kernel_rfl
theorem tP_138_1 : tPlc Tryz.prog 138 1 = some (7, 1) := by kernel_rfl
theorem tF_138_2 : tFld Tryz.prog 138 2 = some (8, 1) := by kernel_rfl
theorem tP_138_2 : tPlc Tryz.prog 138 2 = some (8, 1) := by kernel_rfl
theorem tF_138_3 : tFld Tryz.prog 138 3 = some (9, 1) := by kernel_rfl
theorem tF_138_4 : tFld Tryz.prog 138 4 = some (10, 1) := by kernel_rfl
theorem tF_138_5 : tFld Tryz.prog 138 5 = some (11, 1) := by kernel_rfl
theorem tSt_138 : tIsSt Tryz.prog 138 = true := by kernel_rfl
theorem tS_142 : tSome Tryz.prog 142 = true := by kernel_rfl
theorem tA_142 : tAgg Tryz.prog 142 = false := by kernel_rfl
theorem tZ_142 : tSz Tryz.prog 142 = some 1 := by kernel_rfl
theorem tPt_142 : tIsPtr Tryz.prog 142 = true := by kernel_rfl
theorem tF_144_0 : tFld Tryz.prog 144 0 = some (0, 1) := by kernel_rfl
theorem tP_144_0 : tPlc Tryz.prog 144 0 = some (0, 1) := by kernel_rfl
theorem tF_144_2 : tFld Tryz.prog 144 2 = some (2, 1) := by kernel_rfl
theorem tF_144_3 : tFld Tryz.prog 144 3 = some (3, 1) := by kernel_rfl
theorem tF_144_4 : tFld Tryz.prog 144 4 = some (4, 7) := by kernel_rfl
theorem tF_144_5 : tFld Tryz.prog 144 5 = some (11, 1) := by kernel_rfl
theorem tF_144_6 : tFld Tryz.prog 144 6 = some (12, 5) := by kernel_rfl
theorem tSt_144 : tIsSt Tryz.prog 144 = true := by kernel_rfl
theorem tS_154 : tSome Tryz.prog 154 = true := by kernel_rfl
theorem tA_154 : tAgg Tryz.prog 154 = true := by kernel_rfl
theorem tZ_154 : tSz Tryz.prog 154 = some 8 := by kernel_rfl
theorem tAr_154 : tArr Tryz.prog 154 = some (8, 1, false) := by kernel_rfl
theorem tP_154_0 : tPlc Tryz.prog 154 0 = some (0, 1) := by kernel_rfl
theorem tP_154_1 : tPlc Tryz.prog 154 1 = some (1, 1) := by kernel_rfl
theorem tP_154_2 : tPlc Tryz.prog 154 2 = some (2, 1) := by kernel_rfl
theorem tP_154_3 : tPlc Tryz.prog 154 3 = some (3, 1) := by kernel_rfl
theorem tP_154_4 : tPlc Tryz.prog 154 4 = some (4, 1) := by kernel_rfl
theorem tP_154_5 : tPlc Tryz.prog 154 5 = some (5, 1) := by kernel_rfl
theorem tP_154_6 : tPlc Tryz.prog 154 6 = some (6, 1) := by kernel_rfl
theorem tP_154_7 : tPlc Tryz.prog 154 7 = some (7, 1) := by kernel_rfl
theorem tSt_154 : tIsSt Tryz.prog 154 = true := by kernel_rfl
theorem tArS_154 : qIndex.tArrS Tryz.prog 154 = true := by kernel_rfl
theorem tF_163_0 : tFld Tryz.prog 163 0 = some (0, 1) := by kernel_rfl
theorem tP_163_0 : tPlc Tryz.prog 163 0 = some (0, 1) := by kernel_rfl
theorem tSt_163 : tIsSt Tryz.prog 163 = true := by kernel_rfl
theorem tF_167_0 : tFld Tryz.prog 167 0 = some (0, 1) := by kernel_rfl
theorem tP_167_0 : tPlc Tryz.prog 167 0 = some (0, 1) := by kernel_rfl
theorem tF_167_1 : tFld Tryz.prog 167 1 = some (1, 1) := by kernel_rfl
theorem tP_167_1 : tPlc Tryz.prog 167 1 = some (1, 1) := by kernel_rfl
theorem tSt_167 : tIsSt Tryz.prog 167 = true := by kernel_rfl
theorem tS_175 : tSome Tryz.prog 175 = true := by kernel_rfl
theorem tI_175 : tInt Tryz.prog 175 = some .u64 := by kernel_rfl
def zs : TypeId → AV
  | 27 => .agg [.nilsl]
  | 37 => .agg [.nilsl, .nilsl]
  | 62 => .agg [.agg [.nilsl], .int .i64 0, .bool false, .int .i64 0, .int .i64 0, .int .i64 0]
  | 69 => .agg [.nilsl, .int .i64 0, .nilsl, .int .i64 0, .int .i64 0, .int .i64 0, .nilsl]
  | 87 => .agg [.int .i64 0, .int .i64 0, .nilsl, .int .i64 0, .agg [.nilsl, .int .i64 0, .nilsl, .int .i64 0, .int .i64 0, .int .i64 0, .nilsl], .nilp]
  | 92 => .agg [.int .i64 0, .int .i64 0, .int .i64 0, .int .i64 0, .int .i64 0]
  | 94 => .agg [.bool false, .int .i64 0, .nilsl, .agg [.int .i64 0, .int .i64 0, .int .i64 0, .int .i64 0, .int .i64 0], .nilp]
  | 99 => .agg [.int .i64 0]
  | 103 => .agg [.nilf, .nilf, .nilf]
  | 105 => .agg [.agg [.nilsl, .int .i64 0, .nilsl, .int .i64 0, .int .i64 0, .int .i64 0, .nilsl], .bool false]
  | 107 => .agg [.agg [.nilsl], .int .i64 0, .agg [.nilf, .nilf, .nilf], .bool false, .agg [.nilsl, .int .i64 0, .nilsl, .int .i64 0, .int .i64 0, .int .i64 0, .nilsl], .int .i64 0, .int .i64 0, .int .i64 0, .bool false, .agg [.agg [.nilsl, .int .i64 0, .nilsl, .int .i64 0, .int .i64 0, .int .i64 0, .nilsl], .bool false]]
  | 122 => .agg [.str [], .int .i64 0, .int .i64 0]
  | 138 => .agg [.agg [.nilsl, .int .i64 0, .nilsl, .int .i64 0, .int .i64 0, .int .i64 0, .nilsl], .bool false, .bool false, .bool false, .bool false, .int .i64 0]
  | 144 => .agg [.nilp, .nilp, .nilsl, .nilsl, .agg [.nilsl, .int .i64 0, .nilsl, .int .i64 0, .int .i64 0, .int .i64 0, .nilsl], .bool false, .agg [.int .i64 0, .int .i64 0, .int .i64 0, .int .i64 0, .int .i64 0]]
  | 154 => .agg [.nilf, .nilf, .nilf, .nilf, .nilf, .nilf, .nilf, .nilf]
  | 163 => .agg [.nilp]
  | 165 => .agg [.agg [.nilp], .nilp]
  | 167 => .agg [.agg [.nilp], .nilp]
  | _ => .junk
def zo (t : TypeId) : AV := if t = 4294967295 then .bool true else zs t
theorem zs_m : zs 4294967295 = .junk := rfl
theorem zo_m : zo 4294967295 = .bool true := rfl
theorem zs_27 : zs 27 = .agg [.nilsl] := rfl
theorem zo_27 : zo 27 = .agg [.nilsl] := rfl
theorem zi_27 : ZeroIs Tryz.prog 27 (.agg [.nilsl]) := zeroIs_of rfl (.agg #[.slice none 0 0]) (by kernel_rfl) rfl
theorem zs_37 : zs 37 = .agg [.nilsl, .nilsl] := rfl
theorem zo_37 : zo 37 = .agg [.nilsl, .nilsl] := rfl
theorem zi_37 : ZeroIs Tryz.prog 37 (.agg [.nilsl, .nilsl]) := zeroIs_of rfl (.agg #[.slice none 0 0, .slice none 0 0]) (by kernel_rfl) rfl
theorem zs_62 : zs 62 = .agg [.agg [.nilsl], .int .i64 0, .bool false, .int .i64 0, .int .i64 0, .int .i64 0] := rfl
theorem zo_62 : zo 62 = .agg [.agg [.nilsl], .int .i64 0, .bool false, .int .i64 0, .int .i64 0, .int .i64 0] := rfl
theorem zi_62 : ZeroIs Tryz.prog 62 (.agg [.agg [.nilsl], .int .i64 0, .bool false, .int .i64 0, .int .i64 0, .int .i64 0]) := zeroIs_of rfl (.agg #[.slice none 0 0, .int .i64 0, .bool false, .int .i64 0, .int .i64 0, .int .i64 0]) (by kernel_rfl) rfl
theorem zs_69 : zs 69 = .agg [.nilsl, .int .i64 0, .nilsl, .int .i64 0, .int .i64 0, .int .i64 0, .nilsl] := rfl
theorem zo_69 : zo 69 = .agg [.nilsl, .int .i64 0, .nilsl, .int .i64 0, .int .i64 0, .int .i64 0, .nilsl] := rfl
theorem zi_69 : ZeroIs Tryz.prog 69 (.agg [.nilsl, .int .i64 0, .nilsl, .int .i64 0, .int .i64 0, .int .i64 0, .nilsl]) := zeroIs_of rfl (.agg #[.slice none 0 0, .int .i64 0, .slice none 0 0, .int .i64 0, .int .i64 0, .int .i64 0, .slice none 0 0]) (by kernel_rfl) rfl
theorem zs_87 : zs 87 = .agg [.int .i64 0, .int .i64 0, .nilsl, .int .i64 0, .agg [.nilsl, .int .i64 0, .nilsl, .int .i64 0, .int .i64 0, .int .i64 0, .nilsl], .nilp] := rfl
theorem zo_87 : zo 87 = .agg [.int .i64 0, .int .i64 0, .nilsl, .int .i64 0, .agg [.nilsl, .int .i64 0, .nilsl, .int .i64 0, .int .i64 0, .int .i64 0, .nilsl], .nilp] := rfl
theorem zi_87 : ZeroIs Tryz.prog 87 (.agg [.int .i64 0, .int .i64 0, .nilsl, .int .i64 0, .agg [.nilsl, .int .i64 0, .nilsl, .int .i64 0, .int .i64 0, .int .i64 0, .nilsl], .nilp]) := zeroIs_of rfl (.agg #[.int .i64 0, .int .i64 0, .slice none 0 0, .int .i64 0, .slice none 0 0, .int .i64 0, .slice none 0 0, .int .i64 0, .int .i64 0, .int .i64 0, .slice none 0 0, .pointer none]) (by kernel_rfl) rfl
theorem zs_92 : zs 92 = .agg [.int .i64 0, .int .i64 0, .int .i64 0, .int .i64 0, .int .i64 0] := rfl
theorem zo_92 : zo 92 = .agg [.int .i64 0, .int .i64 0, .int .i64 0, .int .i64 0, .int .i64 0] := rfl
theorem zi_92 : ZeroIs Tryz.prog 92 (.agg [.int .i64 0, .int .i64 0, .int .i64 0, .int .i64 0, .int .i64 0]) := zeroIs_of rfl (.agg #[.int .i64 0, .int .i64 0, .int .i64 0, .int .i64 0, .int .i64 0]) (by kernel_rfl) rfl
theorem zs_94 : zs 94 = .agg [.bool false, .int .i64 0, .nilsl, .agg [.int .i64 0, .int .i64 0, .int .i64 0, .int .i64 0, .int .i64 0], .nilp] := rfl
theorem zo_94 : zo 94 = .agg [.bool false, .int .i64 0, .nilsl, .agg [.int .i64 0, .int .i64 0, .int .i64 0, .int .i64 0, .int .i64 0], .nilp] := rfl
theorem zi_94 : ZeroIs Tryz.prog 94 (.agg [.bool false, .int .i64 0, .nilsl, .agg [.int .i64 0, .int .i64 0, .int .i64 0, .int .i64 0, .int .i64 0], .nilp]) := zeroIs_of rfl (.agg #[.bool false, .int .i64 0, .slice none 0 0, .int .i64 0, .int .i64 0, .int .i64 0, .int .i64 0, .int .i64 0, .pointer none]) (by kernel_rfl) rfl
theorem zs_99 : zs 99 = .agg [.int .i64 0] := rfl
theorem zo_99 : zo 99 = .agg [.int .i64 0] := rfl
theorem zi_99 : ZeroIs Tryz.prog 99 (.agg [.int .i64 0]) := zeroIs_of rfl (.agg #[.int .i64 0]) (by kernel_rfl) rfl
theorem zs_103 : zs 103 = .agg [.nilf, .nilf, .nilf] := rfl
theorem zo_103 : zo 103 = .agg [.nilf, .nilf, .nilf] := rfl
theorem zi_103 : ZeroIs Tryz.prog 103 (.agg [.nilf, .nilf, .nilf]) := zeroIs_of rfl (.agg #[.nilFunc, .nilFunc, .nilFunc]) (by kernel_rfl) rfl
theorem zs_105 : zs 105 = .agg [.agg [.nilsl, .int .i64 0, .nilsl, .int .i64 0, .int .i64 0, .int .i64 0, .nilsl], .bool false] := rfl
theorem zo_105 : zo 105 = .agg [.agg [.nilsl, .int .i64 0, .nilsl, .int .i64 0, .int .i64 0, .int .i64 0, .nilsl], .bool false] := rfl
theorem zi_105 : ZeroIs Tryz.prog 105 (.agg [.agg [.nilsl, .int .i64 0, .nilsl, .int .i64 0, .int .i64 0, .int .i64 0, .nilsl], .bool false]) := zeroIs_of rfl (.agg #[.slice none 0 0, .int .i64 0, .slice none 0 0, .int .i64 0, .int .i64 0, .int .i64 0, .slice none 0 0, .bool false]) (by kernel_rfl) rfl
theorem zs_107 : zs 107 = .agg [.agg [.nilsl], .int .i64 0, .agg [.nilf, .nilf, .nilf], .bool false, .agg [.nilsl, .int .i64 0, .nilsl, .int .i64 0, .int .i64 0, .int .i64 0, .nilsl], .int .i64 0, .int .i64 0, .int .i64 0, .bool false, .agg [.agg [.nilsl, .int .i64 0, .nilsl, .int .i64 0, .int .i64 0, .int .i64 0, .nilsl], .bool false]] := rfl
theorem zo_107 : zo 107 = .agg [.agg [.nilsl], .int .i64 0, .agg [.nilf, .nilf, .nilf], .bool false, .agg [.nilsl, .int .i64 0, .nilsl, .int .i64 0, .int .i64 0, .int .i64 0, .nilsl], .int .i64 0, .int .i64 0, .int .i64 0, .bool false, .agg [.agg [.nilsl, .int .i64 0, .nilsl, .int .i64 0, .int .i64 0, .int .i64 0, .nilsl], .bool false]] := rfl
theorem zi_107 : ZeroIs Tryz.prog 107 (.agg [.agg [.nilsl], .int .i64 0, .agg [.nilf, .nilf, .nilf], .bool false, .agg [.nilsl, .int .i64 0, .nilsl, .int .i64 0, .int .i64 0, .int .i64 0, .nilsl], .int .i64 0, .int .i64 0, .int .i64 0, .bool false, .agg [.agg [.nilsl, .int .i64 0, .nilsl, .int .i64 0, .int .i64 0, .int .i64 0, .nilsl], .bool false]]) := zeroIs_of rfl (.agg #[.slice none 0 0, .int .i64 0, .nilFunc, .nilFunc, .nilFunc, .bool false, .slice none 0 0, .int .i64 0, .slice none 0 0, .int .i64 0, .int .i64 0, .int .i64 0, .slice none 0 0, .int .i64 0, .int .i64 0, .int .i64 0, .bool false, .slice none 0 0, .int .i64 0, .slice none 0 0, .int .i64 0, .int .i64 0, .int .i64 0, .slice none 0 0, .bool false]) (by kernel_rfl) rfl
theorem zs_122 : zs 122 = .agg [.str [], .int .i64 0, .int .i64 0] := rfl
theorem zo_122 : zo 122 = .agg [.str [], .int .i64 0, .int .i64 0] := rfl
theorem zi_122 : ZeroIs Tryz.prog 122 (.agg [.str [], .int .i64 0, .int .i64 0]) := zeroIs_of rfl (.agg #[.string ⟨#[]⟩, .int .i64 0, .int .i64 0]) (by kernel_rfl) rfl
theorem zs_138 : zs 138 = .agg [.agg [.nilsl, .int .i64 0, .nilsl, .int .i64 0, .int .i64 0, .int .i64 0, .nilsl], .bool false, .bool false, .bool false, .bool false, .int .i64 0] := rfl
theorem zo_138 : zo 138 = .agg [.agg [.nilsl, .int .i64 0, .nilsl, .int .i64 0, .int .i64 0, .int .i64 0, .nilsl], .bool false, .bool false, .bool false, .bool false, .int .i64 0] := rfl
theorem zi_138 : ZeroIs Tryz.prog 138 (.agg [.agg [.nilsl, .int .i64 0, .nilsl, .int .i64 0, .int .i64 0, .int .i64 0, .nilsl], .bool false, .bool false, .bool false, .bool false, .int .i64 0]) := zeroIs_of rfl (.agg #[.slice none 0 0, .int .i64 0, .slice none 0 0, .int .i64 0, .int .i64 0, .int .i64 0, .slice none 0 0, .bool false, .bool false, .bool false, .bool false, .int .i64 0]) (by kernel_rfl) rfl
theorem zs_144 : zs 144 = .agg [.nilp, .nilp, .nilsl, .nilsl, .agg [.nilsl, .int .i64 0, .nilsl, .int .i64 0, .int .i64 0, .int .i64 0, .nilsl], .bool false, .agg [.int .i64 0, .int .i64 0, .int .i64 0, .int .i64 0, .int .i64 0]] := rfl
theorem zo_144 : zo 144 = .agg [.nilp, .nilp, .nilsl, .nilsl, .agg [.nilsl, .int .i64 0, .nilsl, .int .i64 0, .int .i64 0, .int .i64 0, .nilsl], .bool false, .agg [.int .i64 0, .int .i64 0, .int .i64 0, .int .i64 0, .int .i64 0]] := rfl
theorem zi_144 : ZeroIs Tryz.prog 144 (.agg [.nilp, .nilp, .nilsl, .nilsl, .agg [.nilsl, .int .i64 0, .nilsl, .int .i64 0, .int .i64 0, .int .i64 0, .nilsl], .bool false, .agg [.int .i64 0, .int .i64 0, .int .i64 0, .int .i64 0, .int .i64 0]]) := zeroIs_of rfl (.agg #[.pointer none, .pointer none, .slice none 0 0, .slice none 0 0, .slice none 0 0, .int .i64 0, .slice none 0 0, .int .i64 0, .int .i64 0, .int .i64 0, .slice none 0 0, .bool false, .int .i64 0, .int .i64 0, .int .i64 0, .int .i64 0, .int .i64 0]) (by kernel_rfl) rfl
theorem zs_154 : zs 154 = .agg [.nilf, .nilf, .nilf, .nilf, .nilf, .nilf, .nilf, .nilf] := rfl
theorem zo_154 : zo 154 = .agg [.nilf, .nilf, .nilf, .nilf, .nilf, .nilf, .nilf, .nilf] := rfl
theorem zi_154 : ZeroIs Tryz.prog 154 (.agg [.nilf, .nilf, .nilf, .nilf, .nilf, .nilf, .nilf, .nilf]) := zeroIs_of rfl (.agg #[.nilFunc, .nilFunc, .nilFunc, .nilFunc, .nilFunc, .nilFunc, .nilFunc, .nilFunc]) (by kernel_rfl) rfl
theorem zs_163 : zs 163 = .agg [.nilp] := rfl
theorem zo_163 : zo 163 = .agg [.nilp] := rfl
theorem zi_163 : ZeroIs Tryz.prog 163 (.agg [.nilp]) := zeroIs_of rfl (.agg #[.pointer none]) (by kernel_rfl) rfl
theorem zs_165 : zs 165 = .agg [.agg [.nilp], .nilp] := rfl
theorem zo_165 : zo 165 = .agg [.agg [.nilp], .nilp] := rfl
theorem zs_167 : zs 167 = .agg [.agg [.nilp], .nilp] := rfl
theorem zo_167 : zo 167 = .agg [.agg [.nilp], .nilp] := rfl
theorem zi_167 : ZeroIs Tryz.prog 167 (.agg [.agg [.nilp], .nilp]) := zeroIs_of rfl (.agg #[.pointer none, .pointer none]) (by kernel_rfl) rfl
attribute [go_sem] tS_1 tA_1 tZ_1 tS_3 tA_3 tZ_3 tI_3 tS_4 tA_4 tZ_4 tBo_4 tS_5 tA_5 tZ_5 tS_9 tA_9 tZ_9 tStr_9 tS_25 tA_25 tZ_25 tE_25 tEl_25 tSl_25 tS_27 tA_27 tZ_27 tF_27_0 tP_27_0 tSt_27 tS_28 tA_28 tZ_28 tE_28 tEl_28 tSl_28 tS_35 tA_35 tZ_35 tE_35 tEl_35 tSl_35 tF_37_0 tF_37_1 tSt_37 tS_62 tA_62 tZ_62 tF_62_0 tF_62_1 tF_62_2 tF_62_3 tE_63 tEl_63 tSl_63 tS_67 tA_67 tZ_67 tE_67 tEl_67 tSl_67 tBy_67 tS_69 tA_69 tZ_69 tF_69_0 tP_69_0 tF_69_1 tP_69_1 tF_69_2 tP_69_2 tF_69_3 tP_69_3 tF_69_4 tP_69_4 tF_69_5 tP_69_5 tF_69_6 tSt_69 tS_81 tA_81 tZ_81 tF_87_0 tP_87_0 tF_87_1 tP_87_1 tF_87_2 tF_87_3 tF_87_4 tF_87_5 tSt_87 tS_88 tA_88 tZ_88 tS_92 tA_92 tZ_92 tF_92_0 tP_92_0 tF_92_1 tF_92_2 tF_92_3 tF_92_4 tSt_92 tF_94_0 tP_94_0 tF_94_1 tP_94_1 tF_94_2 tF_94_3 tF_94_4 tSt_94 tF_99_0 tSt_99 tS_100 tA_100 tZ_100 tS_101 tA_101 tZ_101 tF_103_0 tP_103_0 tF_103_1 tP_103_1 tF_103_2 tP_103_2 tSt_103 tZ_105 tF_105_0 tP_105_0 tF_105_1 tP_105_1 tSt_105 tF_107_0 tP_107_0 tF_107_1 tP_107_1 tF_107_2 tP_107_2 tF_107_3 tF_107_4 tF_107_5 tF_107_6 tF_107_7 tF_107_8 tF_107_9 tSt_107 tPt_116 tS_122 tA_122 tZ_122 tF_122_0 tP_122_0 tF_122_1 tP_122_1 tF_122_2 tP_122_2 tSt_122 tM_124 tS_138 tA_138 tZ_138 tF_138_0 tP_138_0 tF_138_1 tP_138_1 tF_138_2 tP_138_2 tF_138_3 tF_138_4 tF_138_5 tSt_138 tS_142 tA_142 tZ_142 tPt_142 tF_144_0 tP_144_0 tF_144_2 tF_144_3 tF_144_4 tF_144_5 tF_144_6 tSt_144 tS_154 tA_154 tZ_154 tAr_154 tP_154_0 tP_154_1 tP_154_2 tP_154_3 tP_154_4 tP_154_5 tP_154_6 tP_154_7 tSt_154 tArS_154 tF_163_0 tP_163_0 tSt_163 tF_167_0 tP_167_0 tF_167_1 tP_167_1 tSt_167 tS_175 tI_175 zs_m zo_m zs_27 zo_27 zi_27 zs_37 zo_37 zi_37 zs_62 zo_62 zi_62 zs_69 zo_69 zi_69 zs_87 zo_87 zi_87 zs_92 zo_92 zi_92 zs_94 zo_94 zi_94 zs_99 zo_99 zi_99 zs_103 zo_103 zi_103 zs_105 zo_105 zi_105 zs_107 zo_107 zi_107 zs_122 zo_122 zi_122 zs_138 zo_138 zi_138 zs_144 zo_144 zi_144 zs_154 zo_154 zi_154 zs_163 zo_163 zi_163 zs_165 zo_165 zs_167 zo_167 zi_167
end Go.Proofs.YtijhkfhflpmajaaGreat
namespace Go.Proofs.YtijhkfhflpmajaaGreat
open Go Go.Sx Go.Rt Go.Proofs
theorem c_cell_outside (x lo hi : Int) (H : Heap) (n : Nat) : Ret Tryz.prog 62 [.int .i64 x, .int .i64 lo, .int .i64 hi] H n (.bool (bout x lo hi)) H n := by
  refine acalls_of_awp Tryz.func62 rfl Tryz.ntmps62 (congrArg Array.toList Tryz.results62) (by simp) ?_
  simp only [go_sem]
  refine awp_rq zs [0, 1, 2] ?_
  refine awp_rq zs [6] ?_
  refine awp_ret ?_
  try simp only [go_sem, seval]
  unfold bout; by_cases h : x < lo <;> simp [h]
theorem c_retain_outside (x : Int) (H : Heap) (n : Nat) : Ret Tryz.prog 108 [.int .i64 x] H n (.bool (bout x 0 1099511627776)) H n := by
  refine acalls_of_awp Tryz.func108 rfl Tryz.ntmps108 (congrArg Array.toList Tryz.results108) (by simp) ?_
  simp only [go_sem]
  refine awp_rq zs [0] ?_
  refine awp_rq zs [2] ?_
  refine awp_ret ?_
  try simp only [go_sem, seval]
  unfold bout; by_cases h : x < 0 <;> simp [h]
theorem c_cell_letter (b : UInt8) (H : Heap) (n : Nat) : Ret Tryz.prog 138 [byteAV b] H n (.bool (letterB b)) H n := by
  refine acalls_of_awp Tryz.func138 rfl Tryz.ntmps138 (congrArg Array.toList Tryz.results138) (by simp) ?_
  simp only [go_sem]
  refine awp_rq zs [0] ?_
  refine awp_rq zs [2] ?_
  refine awp_ret ?_
  try simp only [go_sem, seval]
  unfold letterB; by_cases h : 97 ≤ (b.toNat : Int) <;> simp [h]
theorem c_bytes_Equal (a b : List UInt8) (H : Heap) (n : Nat) : Ret Tryz.prog 97 [bys a, bys b] H n (.bool (a == b)) H n := by
  refine acalls_of_awp Tryz.func97 rfl Tryz.ntmps97 (congrArg Array.toList Tryz.results97) (by simp) ?_
  simp only [go_sem]
  refine awp_reg zs [0, 1] fun K hK => ?_
  try simp only [go_sem, seval]
  repeat (first | (refine And.intro ?_ ?_; · first | exact bys_isByte _ | trivial) | refine peel ?_)
  refine hK _ _ _ ?_; clear hK K
  refine awp_reg zs [4] fun K hK => ?_
  try simp only [go_sem, seval]
  repeat (first | (refine And.intro ?_ ?_; · first | exact bys_isByte _ | trivial) | refine peel ?_)
  refine hK _ _ _ ?_; clear hK K
  refine awp_ret ?_
  try simp only [go_sem, seval]
  rw [map_byteOf, map_byteOf]
theorem c_cmp_isNaN (a : Int) (H : Heap) (n : Nat) : Ret Tryz.prog 137 [.int .i64 a] H n (.bool false) H n := by
  refine acalls_of_awp Tryz.func137 rfl Tryz.ntmps137 (congrArg Array.toList Tryz.results137) (by simp) ?_
  simp only [go_sem]
  refine awp_rq zs [0] ?_
  refine awp_rq zs [2] ?_
  refine awp_ret ?_
  try simp only [go_sem, seval]
  simp
theorem c_cell_first (kk : Int) (a b : Ent) (H : Heap) (n : Nat) : Ret Tryz.prog 126 [.int .i64 kk, entAV a, entAV b] H n (.int .i64 (if a.kind = kk then (if b.kind = kk then 0 else -1) else (if b.kind = kk then 1 else 0))) H n := by
  refine Ret.fin ?_
  refine acalls_of_awp Tryz.func126 rfl Tryz.ntmps126 (congrArg Array.toList Tryz.results126) (by simp) ?_
  simp only [go_sem]
  refine awp_rq zs [0, 4, 5] ?_
  refine awp_drw rfl zs [7, 8] [.q, .q, .m, .q, .q, .q, .m, .q, .q, .q] (by kernel_rfl) (fun _ _ _ _ _ h => h) fun K hK => ?_
  try simp only [go_sem, seval]
  refine hK _ _ _ ?_; clear hK K
  refine awp_seq_k fun K1 hK1 => ?_
  refine awp_block ?_
  refine awp_rq zs [7, 17] ?_
  refine awp_cnd (fun hb => ?_) (fun hb => ?_)
  ·skip
   refine awp_rq zs [6] ?_
   refine awp_ret ?_
   try simp only [go_sem, seval]
   refine ⟨_, rfl, ?_, Frz.eq ?_ trivial⟩
   · intro k hk; have h0 : k ≠ n := by omega
     have h1 : ∀ j, k ≠ n + j := fun j => by omega
     simp [Heap.put, h0, h1]
   by_cases ha : a.kind = kk <;> by_cases hb' : b.kind = kk <;> simp_all
  ·skip
   refine awp_rq zs [21] ?_
   refine awp_cnd (fun hb => ?_) (fun hb => ?_)
   ·skip
    refine awp_rq zs [6] ?_
    refine awp_ret ?_
    try simp only [go_sem, seval]
    refine ⟨_, rfl, ?_, Frz.eq ?_ trivial⟩
    · intro k hk; have h0 : k ≠ n := by omega
      have h1 : ∀ j, k ≠ n + j := fun j => by omega
      simp [Heap.put, h0, h1]
    by_cases ha : a.kind = kk <;> by_cases hb' : b.kind = kk <;> simp_all
   ·skip
    refine awp_skip ?_
    try simp only [go_sem, seval]
    refine hK1 _ _ _ ?_
    first | clear hK1 K1 | skip
    refine awp_rq zs [6] ?_
    refine awp_ret ?_
    try simp only [go_sem, seval]
    refine ⟨_, rfl, ?_, Frz.eq ?_ trivial⟩
    · intro k hk; have h0 : k ≠ n := by omega
      have h1 : ∀ j, k ≠ n + j := fun j => by omega
      simp [Heap.put, h0, h1]
    by_cases ha : a.kind = kk <;> by_cases hb' : b.kind = kk <;> simp_all
end Go.Proofs.YtijhkfhflpmajaaGreat
namespace Go.Proofs.YtijhkfhflpmajaaGreat
open Go Go.Sx Go.Rt Go.Proofs
theorem c_cell_Check (e : Ent) (H : Heap) (n : Nat) : Ret Tryz.prog 35 [entAV e] H n (.int .i64 (checkE e)) H n := by
  refine Ret.fin ?_
  refine acalls_of_awp Tryz.func35 rfl Tryz.ntmps35 (congrArg Array.toList Tryz.results35) (by simp) ?_
  simp only [go_sem]
  refine awp_rq zs [1] ?_
  refine awp_seq_k fun K1 hK1 => ?_
  refine awp_block ?_
  refine awp_reg zs [1, 3] fun K hK => ?_
  try simp only [go_sem, seval]
  refine callK_use Tryz.func62 rfl rfl rfl ((by apply c_cell_outside <;> first | assumption | omega)) ?_
  try simp only [go_sem, seval]
  refine hK _ _ _ ?_; clear hK K
  refine awp_cnd (fun hb => ?_) (fun hb => ?_)
  ·skip
   refine awp_rq zs [2] ?_
   refine awp_ret ?_
   try simp only [go_sem, seval]
   refine ⟨_, rfl, ?_, Frz.eq ?_ trivial⟩
   · intro k hk; have h0 : k ≠ n := by omega
     have h1 : ∀ j, k ≠ n + j := fun j => by omega
     simp [Heap.put, h0, h1]
   simp only [List.length_map] at *
   simp only [checkE, badQ, badV, *, ↓reduceIte, Bool.false_eq_true]
  ·skip
   refine awp_reg zs [1, 8] fun K hK => ?_
   try simp only [go_sem, seval]
   refine callK_use Tryz.func62 rfl rfl rfl ((by apply c_cell_outside <;> first | assumption | omega)) ?_
   try simp only [go_sem, seval]
   refine hK _ _ _ ?_; clear hK K
   refine awp_cnd (fun hb => ?_) (fun hb => ?_)
   ·skip
    refine awp_rq zs [2] ?_
    refine awp_ret ?_
    try simp only [go_sem, seval]
    refine ⟨_, rfl, ?_, Frz.eq ?_ trivial⟩
    · intro k hk; have h0 : k ≠ n := by omega
      have h1 : ∀ j, k ≠ n + j := fun j => by omega
      simp [Heap.put, h0, h1]
    simp only [List.length_map] at *
    simp only [checkE, badQ, badV, *, ↓reduceIte, Bool.false_eq_true]
   ·skip
    refine awp_rq zs [1, 12] ?_
    refine awp_cnd (fun hb => ?_) (fun hb => ?_)
    ·skip
     refine awp_rq zs [2] ?_
     refine awp_ret ?_
     try simp only [go_sem, seval]
     refine ⟨_, rfl, ?_, Frz.eq ?_ trivial⟩
     · intro k hk; have h0 : k ≠ n := by omega
       have h1 : ∀ j, k ≠ n + j := fun j => by omega
       simp [Heap.put, h0, h1]
     simp only [List.length_map] at *
     simp only [checkE, badQ, badV, *, ↓reduceIte, Bool.false_eq_true]
    ·skip
     refine awp_reg zs [1, 28] fun K hK => ?_
     try simp only [go_sem, seval]
     refine callK_use Tryz.func62 rfl rfl rfl ((by apply c_cell_outside <;> first | assumption | omega)) ?_
     try simp only [go_sem, seval]
     refine hK _ _ _ ?_; clear hK K
     refine awp_cnd (fun hb => ?_) (fun hb => ?_)
     ·skip
      refine awp_rq zs [2] ?_
      refine awp_ret ?_
      try simp only [go_sem, seval]
      refine ⟨_, rfl, ?_, Frz.eq ?_ trivial⟩
      · intro k hk; have h0 : k ≠ n := by omega
        have h1 : ∀ j, k ≠ n + j := fun j => by omega
        simp [Heap.put, h0, h1]
      simp only [List.length_map] at *
      simp only [checkE, badQ, badV, *, ↓reduceIte, Bool.false_eq_true]
     ·skip
      refine awp_reg zs [1, 32] fun K hK => ?_
      try simp only [go_sem, seval]
      refine callK_use Tryz.func62 rfl rfl rfl ((by apply c_cell_outside <;> first | assumption | omega)) ?_
      try simp only [go_sem, seval]
      refine hK _ _ _ ?_; clear hK K
      refine awp_cnd (fun hb => ?_) (fun hb => ?_)
      ·skip
       refine awp_rq zs [2] ?_
       refine awp_ret ?_
       try simp only [go_sem, seval]
       refine ⟨_, rfl, ?_, Frz.eq ?_ trivial⟩
       · intro k hk; have h0 : k ≠ n := by omega
         have h1 : ∀ j, k ≠ n + j := fun j => by omega
         simp [Heap.put, h0, h1]
       simp only [List.length_map] at *
       simp only [checkE, badQ, badV, *, ↓reduceIte, Bool.false_eq_true]
      ·skip
       refine awp_reg zs [1, 36] fun K hK => ?_
       try simp only [go_sem, seval]
       refine callK_use Tryz.func62 rfl rfl rfl ((by apply c_cell_outside <;> first | assumption | omega)) ?_
       try simp only [go_sem, seval]
       refine hK _ _ _ ?_; clear hK K
       refine awp_cnd (fun hb => ?_) (fun hb => ?_)
       ·skip
        refine awp_rq zs [2] ?_
        refine awp_ret ?_
        try simp only [go_sem, seval]
        refine ⟨_, rfl, ?_, Frz.eq ?_ trivial⟩
        · intro k hk; have h0 : k ≠ n := by omega
          have h1 : ∀ j, k ≠ n + j := fun j => by omega
          simp [Heap.put, h0, h1]
        simp only [List.length_map] at *
        simp only [checkE, badQ, badV, *, ↓reduceIte, Bool.false_eq_true]
       ·skip
        refine awp_rq zs [40] ?_
        refine awp_cnd (fun hb => ?_) (fun hb => ?_)
        ·skip
         refine awp_rq zs [2] ?_
         refine awp_ret ?_
         try simp only [go_sem, seval]
         refine ⟨_, rfl, ?_, Frz.eq ?_ trivial⟩
         · intro k hk; have h0 : k ≠ n := by omega
           have h1 : ∀ j, k ≠ n + j := fun j => by omega
           simp [Heap.put, h0, h1]
         simp only [List.length_map] at *
         simp only [checkE, badQ, badV, *, ↓reduceIte, Bool.false_eq_true]
        ·skip
         refine awp_skip ?_
         try simp only [go_sem, seval]
         refine hK1 _ _ _ ?_
         first | clear hK1 K1 | skip
         refine awp_rq zs [2] ?_
         refine awp_ret ?_
         try simp only [go_sem, seval]
         refine ⟨_, rfl, ?_, Frz.eq ?_ trivial⟩
         · intro k hk; have h0 : k ≠ n := by omega
           have h1 : ∀ j, k ≠ n + j := fun j => by omega
           simp [Heap.put, h0, h1]
         simp only [List.length_map] at *
         simp only [checkE, badQ, badV, *, ↓reduceIte, Bool.false_eq_true]
theorem c_retain_checked (s : List Fml) (e : Ent) (H : Heap) (n : Nat) : Ret Tryz.prog 73 [schAV s, entAV e] H n (.int .i64 (checkedE s e)) H n := by
  refine Ret.fin ?_
  refine acalls_of_awp Tryz.func73 rfl Tryz.ntmps73 (congrArg Array.toList Tryz.results73) (by simp) ?_
  simp only [go_sem]
  refine awp_rq zs [2, 3] ?_
  refine awp_seq_k fun K1 hK1 => ?_
  refine awp_reg zs [2, 3, 5] fun K hK => ?_
  try simp only [go_sem, seval]
  refine callK_use Tryz.func35 rfl rfl rfl ((c_cell_Check e _ _)) ?_
  try simp only [go_sem, seval]
  refine hK _ _ _ ?_; clear hK K
  refine awp_rq zs [2, 3, 5, 9] ?_
  refine awp_cnd (fun hb => ?_) (fun hb => ?_)
  ·skip
   refine awp_rq zs [4] ?_
   refine awp_ret ?_
   try simp only [go_sem, seval]
   refine ⟨_, rfl, ?_, Frz.eq ?_ trivial⟩
   · intro k hk; have h0 : k ≠ n := by omega
     have h1 : ∀ j, k ≠ n + j := fun j => by omega
     simp [Heap.put, h0, h1]
   simp_all [checkedE]
  ·skip
   refine awp_skip ?_
   try simp only [go_sem, seval]
   refine hK1 _ _ _ ?_
   first | clear hK1 K1 | skip
   refine awp_seq_k fun K2 hK2 => ?_
   refine awp_rq zs [16] ?_
   refine awp_cnd (fun hb => ?_) (fun hb => ?_)
   ·skip
    refine awp_rq zs [4] ?_
    refine awp_ret ?_
    try simp only [go_sem, seval]
    refine ⟨_, rfl, ?_, Frz.eq ?_ trivial⟩
    · intro k hk; have h0 : k ≠ n := by omega
      have h1 : ∀ j, k ≠ n + j := fun j => by omega
      simp [Heap.put, h0, h1]
    simp_all [checkedE]
   ·skip
    refine awp_skip ?_
    try simp only [go_sem, seval]
    refine hK2 _ _ _ ?_
    first | clear hK2 K2 | skip
    refine awp_rq zs [4] ?_
    refine awp_ret ?_
    try simp only [go_sem, seval]
    refine ⟨_, rfl, ?_, Frz.eq ?_ trivial⟩
    · intro k hk; have h0 : k ≠ n := by omega
      have h1 : ∀ j, k ≠ n + j := fun j => by omega
      simp [Heap.put, h0, h1]
    simp_all [checkedE]
theorem c_cell_named (s : List UInt8) (H : Heap) (n : Nat) : Ret Tryz.prog 132 [.str s] H n (.bool (namedB s)) H n := by
  refine acalls_of_awp Tryz.func132 rfl Tryz.ntmps132 (congrArg Array.toList Tryz.results132) (by simp) ?_
  simp only [go_sem]
  refine awp_rq zs [0] ?_
  refine awp_seq_k fun K1 hK1 => ?_
  refine awp_reg zs [0, 13] fun K hK => ?_
  try simp only [go_sem, seval]
  repeat (first | (refine And.intro ?_ ?_; · first | (intro h; simp [bout] at h; omega)) | refine peel ?_)
  refine callK_use Tryz.func62 rfl rfl rfl ((by apply c_cell_outside <;> first | assumption | omega)) ?_
  try simp only [go_sem, seval]
  repeat (first | (refine And.intro ?_ ?_; · first | (intro h; simp [bout] at h; omega)) | refine peel ?_)
  refine callG_use Tryz.func138 rfl rfl rfl (fun _ => (by apply c_cell_letter <;> first | assumption | omega)) ?_
  try simp only [go_sem, seval]
  repeat (first | (refine And.intro ?_ ?_; · first | (intro h; simp [bout] at h; omega)) | refine peel ?_)
  refine hK _ _ _ ?_; clear hK K
  refine awp_cnd (fun hb => ?_) (fun hb => ?_)
  ·skip
   refine awp_reg zs [2] fun K hK => ?_
   simp only [go_sem, implies_true, true_and, and_true, List.map_cons, List.map_nil, ↓reduceIte, Nat.reduceLT]
   refine hK _ _ _ (awp_ret ?_)
   simp only [go_sem, ↓reduceIte, implies_true, true_and, and_true]
   cases h1 : bout s.length 1 32 <;> simp_all [namedB]
   --dead
  ·skip
   have h13 : bout s.length 1 32 = false ∧ letterB (s.getD 0 0) = true := by cases h1 : bout s.length 1 32 <;> simp_all
   have hlen := bout_false h13.1
   refine awp_skip ?_
   try simp only [go_sem, seval]
   refine hK1 _ _ _ ?_
   first | clear hK1 K1 | skip
   refine awp_seq_k fun K2 hK2 => ?_
   refine awp_rq zs [0, 15, 16] ?_
   refine awp_block ?_
   refine awp_loop (fun T' H' n' => ∃ i : Nat, i ≤ s.length ∧ T' = tl [(0, .str s), (15, .int .i64 s.length), (16, .int .i64 i)] ∧ H' = H ∧ n' = n ∧ (s.drop i).all nameB = s.all nameB) (fun T' _ _ => s.length - iv (T' 16)) ?_ ?_
   ·skip
    exact ⟨0, Nat.zero_le _, rfl, rfl, rfl, by simp⟩
   intro T1 H1 n1
   rintro ⟨i, hi, rfl, rfl, rfl, hall⟩
   refine awp_rq zs [0, 15, 16, 17] ?_
   refine awp_seq_k fun K3 hK3 => ?_
   refine awp_cnd (fun hb => ?_) (fun hb => ?_)
   ·skip
    have hlt : i < s.length := by simpa using hb
    rw [drop_cons s i hlt, List.all_cons] at hall
    refine awp_skip ?_
    try simp only [go_sem, seval]
    refine hK3 _ _ _ ?_
    first | clear hK3 K3 | skip
    refine awp_seq_k fun K4 hK4 => ?_
    refine awp_block ?_
    refine awp_rq zs [0, 3, 15, 16] ?_
    refine awp_rq zs [0, 4, 15, 16] ?_
    refine awp_reg zs [0, 15, 16, 36] fun K hK => ?_
    try simp only [go_sem, seval]
    refine callK_use Tryz.func138 rfl rfl rfl ((by apply c_cell_letter <;> first | assumption | omega)) ?_
    try simp only [go_sem, seval]
    repeat refine peel ?_
    refine hK _ _ _ ?_; clear hK K
    refine awp_cnd (fun hb => ?_) (fun hb => ?_)
    ·skip
     have hc : nameB (s.getD i 0) = false := by unfold nameB; exact congrArg (!·) hb
     have hend : namedB s = false := by
       have : s.all nameB = false := by rw [← hall]; show (nameB (s.getD i 0) && _) = false; rw [hc]; rfl
       simp [namedB, this]
     refine awp_rq zs [2] ?_
     refine awp_ret ?_
     try simp only [go_sem, seval]
     rw [hend]
    ·skip
     have hc : nameB (s.getD i 0) = true := by unfold nameB; exact congrArg (!·) hb
     refine awp_skip ?_
     try simp only [go_sem, seval]
     refine hK4 _ _ _ ?_
     first | clear hK4 K4 | skip
     refine awp_reg1 zs [0, 15, 16] fun K hK => ?_
     try simp only [go_sem, seval]
     refine hK _ _ _ ?_; clear hK K
     try simp only [go_sem, seval]
     refine ⟨⟨i + 1, by omega, by rw [w1 (by omega)], ?_⟩, by rw [w1 (by omega)]; simp; omega⟩
     rw [← hall]; show _ = (nameB (s.getD i 0) && _); rw [hc]; rfl
   ·skip
    have hge : i = s.length := by simp at hb; omega
    have hend : namedB s = true := by
      have : s.all nameB = true := by rw [← hall, hge]; simp
      simp only [namedB, this, h13.1, h13.2]; rfl
    refine awp_exit ?_
    try simp only [go_sem, seval]
    refine hK2 _ _ _ ?_
    first | clear hK2 K2 | skip
    refine awp_rq zs [2] ?_
    refine awp_ret ?_
    try simp only [go_sem, seval]
    rw [hend]
theorem c_cell_Family (s : List Fml) (name : List UInt8) (hl : s.length ≤ 1048576) (H : Heap) (n : Nat) : Ret Tryz.prog 133 [schAV s, .str name] H n (.int .i64 (famIx s name 0)) H n := by
  refine Ret.fin ?_
  refine acalls_of_awp Tryz.func133 rfl Tryz.ntmps133 (congrArg Array.toList Tryz.results133) (by simp) ?_
  simp only [go_sem]
  refine awp_rq zs [1, 2] ?_
  refine awp_seq_k fun K1 hK1 => ?_
  refine awp_rq zs [1, 8, 9, 10] ?_
  refine awp_block ?_
  refine awp_loop (fun T' H' n' => ∃ i : Nat, i ≤ s.length ∧ T' = tl [(1, .str name), (8, .sl 3 (s.map famAV)), (9, .int .i64 s.length), (10, .int .i64 i)] ∧ n ≤ n' ∧ (∀ k, k < n → H' k = H k) ∧ famIx (s.drop i) name i = famIx s name 0) (fun T' _ _ => s.length - iv (T' 10)) ?_ ?_
  ·skip
   refine ⟨0, Nat.zero_le _, by rw [List.length_map]; rfl, by omega, ?_, rfl⟩
   intro k hk; have h0 : k ≠ n := by omega
   simp [Heap.put, h0]
  intro T1 H1 n1
  rintro ⟨i, hi, rfl, hn, hH, hix⟩
  refine awp_rq zs [1, 8, 9, 10, 11] ?_
  refine awp_seq_k fun K2 hK2 => ?_
  refine awp_cnd (fun hb => ?_) (fun hb => ?_)
  ·skip
   have hlt : i < s.length := by simpa using hb
   rw [drop_cons s i hlt, famIx] at hix
   refine awp_skip ?_
   try simp only [go_sem, seval]
   refine hK2 _ _ _ ?_
   first | clear hK2 K2 | skip
   refine awp_seq_k fun K3 hK3 => ?_
   refine awp_block ?_
   have hnth : nth (s.map famAV) i = famAV (s.getD i default) := nth_map famAV s i hlt
   refine awp_reg zs [1, 5, 6, 8, 9, 10] fun K hK => ?_
   try simp only [go_sem, seval, Int.toNat_natCast, hnth]
   repeat refine peel ?_
   refine hK _ _ _ ?_; clear hK K
   refine awp_reg zs [1, 5, 8, 9, 10, 18] fun K hK => ?_
   try simp only [go_sem, seval, Int.toNat_natCast]
   refine hK _ _ _ ?_; clear hK K
   refine awp_cnd (fun hb => ?_) (fun hb => ?_)
   ·skip
    have he : (s.getD i default).name = name := by simpa using hb
    rw [if_pos he] at hix
    refine awp_rq zs [4] ?_
    refine awp_ret ?_
    try simp only [go_sem, seval]
    refine ⟨_, rfl, ?_, Frz.eq ?_ trivial⟩
    · intro k hk; have h0 : k ≠ n1 := by omega
      simp [Heap.put, h0, hH k hk]
    rw [← hix]
   ·skip
    have he : ¬ (s.getD i default).name = name := by simpa using hb
    rw [if_neg he] at hix
    refine awp_skip ?_
    try simp only [go_sem, seval]
    refine hK3 _ _ _ ?_
    first | clear hK3 K3 | skip
    refine awp_reg1 zs [1, 8, 9, 10] fun K hK => ?_
    try simp only [go_sem, seval]
    refine hK _ _ _ ?_; clear hK K
    try simp only [go_sem, seval]
    refine ⟨⟨i + 1, by omega, by rw [w1 (by omega)], by omega, ?_, hix⟩, by rw [w1 (by omega)]; simp; omega⟩
    intro k hk; have h0 : k ≠ n1 := by omega
    simp [h0, hH k hk]
  ·skip
   have hge : i = s.length := by simp at hb; omega
   have hix : (-1 : Int) = famIx s name 0 := by rw [← hix, hge]; simp [famIx]
   refine awp_exit ?_
   try simp only [go_sem, seval]
   refine hK1 _ _ _ ?_
   first | clear hK1 K1 | skip
   refine awp_rq zs [4] ?_
   refine awp_ret ?_
   try simp only [go_sem, seval]
   refine ⟨_, rfl, ?_, Frz.eq ?_ trivial⟩
   · intro k hk; have h0 : k ≠ n1 := by omega
     simp [Heap.put, h0, hH k hk]
   rw [← hix]
end Go.Proofs.YtijhkfhflpmajaaGreat
namespace Go.Proofs.YtijhkfhflpmajaaGreat
open Go Go.Sx Go.Rt Go.Proofs
theorem c_retain_same (a b : Ent) (H : Heap) (n : Nat) : Ret Tryz.prog 63 [entAV a, entAV b] H n (.bool (sameE a b)) H n := by
  refine Ret.fin ?_
  refine acalls_of_awp Tryz.func63 rfl Tryz.ntmps63 (congrArg Array.toList Tryz.results63) (by simp) ?_
  simp only [go_sem]
  refine awp_rq zs [2, 3] ?_
  refine awp_rq zs [2, 3, 5] ?_
  refine awp_reg zs [4] fun K hK => ?_
  try simp only [go_sem, seval]
  refine callG_use Tryz.func97 rfl rfl rfl (fun _ => (c_bytes_Equal a.row b.row _ _)) ?_
  try simp only [go_sem, seval]
  repeat refine peel ?_
  refine callG_use Tryz.func97 rfl rfl rfl (fun _ => (c_bytes_Equal a.qual b.qual _ _)) ?_
  try simp only [go_sem, seval]
  repeat refine peel ?_
  refine callG_use Tryz.func97 rfl rfl rfl (fun _ => (c_bytes_Equal a.value b.value _ _)) ?_
  try simp only [go_sem, seval]
  repeat refine peel ?_
  refine hK _ _ _ ?_; clear hK K
  refine awp_ret ?_
  try simp only [go_sem, seval]
  refine ⟨_, rfl, ?_, Frz.eq ?_ trivial⟩
  · intro k hk; have h0 : k ≠ n := by omega
    have h1 : ∀ j, k ≠ n + j := fun j => by omega
    simp [Heap.put, h0, h1]
  rw [sameE_eq]; simp [Bool.and_assoc]
theorem c_retain_sameFam (a b : Ent) (H : Heap) (n : Nat) : Ret Tryz.prog 110 [entAV a, entAV b] H n (.bool (sameFamE a b)) H n := by
  refine Ret.fin ?_
  refine acalls_of_awp Tryz.func110 rfl Tryz.ntmps110 (congrArg Array.toList Tryz.results110) (by simp) ?_
  simp only [go_sem]
  refine awp_rq zs [2, 3] ?_
  refine awp_reg zs [4] fun K hK => ?_
  try simp only [go_sem, seval]
  refine callG_use Tryz.func97 rfl rfl rfl (fun _ => (c_bytes_Equal a.row b.row _ _)) ?_
  try simp only [go_sem, seval]
  repeat refine peel ?_
  refine hK _ _ _ ?_; clear hK K
  refine awp_ret ?_
  try simp only [go_sem, seval]
  refine ⟨_, rfl, ?_, Frz.eq ?_ trivial⟩
  · intro k hk; have h0 : k ≠ n := by omega
    have h1 : ∀ j, k ≠ n + j := fun j => by omega
    simp [Heap.put, h0, h1]
  simp [sameFamE]
theorem c_retain_sameCol (a b : Ent) (H : Heap) (n : Nat) : Ret Tryz.prog 109 [entAV a, entAV b] H n (.bool (sameColE a b)) H n := by
  refine Ret.fin ?_
  refine acalls_of_awp Tryz.func109 rfl Tryz.ntmps109 (congrArg Array.toList Tryz.results109) (by simp) ?_
  simp only [go_sem]
  refine awp_rq zs [2, 3] ?_
  refine awp_reg zs [4] fun K hK => ?_
  try simp only [go_sem, seval]
  refine callK_use Tryz.func110 rfl rfl rfl ((c_retain_sameFam a b _ _)) ?_
  try simp only [go_sem, seval]
  repeat refine peel ?_
  refine callG_use Tryz.func97 rfl rfl rfl (fun _ => (c_bytes_Equal a.qual b.qual _ _)) ?_
  try simp only [go_sem, seval]
  repeat refine peel ?_
  refine hK _ _ _ ?_; clear hK K
  refine awp_ret ?_
  try simp only [go_sem, seval]
  refine ⟨_, rfl, ?_, Frz.eq ?_ trivial⟩
  · intro k hk; have h0 : k ≠ n := by omega
    have h1 : ∀ j, k ≠ n + j := fun j => by omega
    simp [Heap.put, h0, h1]
  simp [sameColE, Bool.and_assoc]
theorem c_cmp_Compare (x y : Int) (H : Heap) (n : Nat) : Ret Tryz.prog 124 [.int .i64 x, .int .i64 y] H n (.int .i64 (cmpI x y)) H n := by
  refine acalls_of_awp Tryz.func124 rfl Tryz.ntmps124 (congrArg Array.toList Tryz.results124) (by simp) ?_
  simp only [go_sem]
  refine awp_rq zs [0, 1] ?_
  refine awp_reg zs [0, 1, 5] fun K hK => ?_
  try simp only [go_sem, seval]
  refine callK_use Tryz.func137 rfl rfl rfl ((by apply c_cmp_isNaN <;> first | assumption | omega)) ?_
  try simp only [go_sem, seval]
  refine hK _ _ _ ?_; clear hK K
  refine awp_reg zs [0, 1, 5, 6] fun K hK => ?_
  try simp only [go_sem, seval]
  refine callK_use Tryz.func137 rfl rfl rfl ((by apply c_cmp_isNaN <;> first | assumption | omega)) ?_
  try simp only [go_sem, seval]
  refine hK _ _ _ ?_; clear hK K
  refine awp_seq_k fun K1 hK1 => ?_
  refine awp_rq zs [0, 1, 6, 11] ?_
  refine awp_cnd (fun hb => ?_) (fun hb => ?_)
  ·skip
   refine awp_seq_k fun K2 hK2 => ?_
   refine awp_rq zs [12] ?_
   refine awp_cnd (fun hb => ?_) (fun hb => ?_)
   ·skip
    refine awp_rq zs [4] ?_
    refine awp_ret ?_
    try simp only [go_sem, seval]
    first | (simp_all [cmpI]; done) | (simp_all [cmpI]; rw [if_neg (by omega), if_neg (by omega)])
   ·skip
    refine awp_skip ?_
    try simp only [go_sem, seval]
    refine hK2 _ _ _ ?_
    first | clear hK2 K2 | skip
    refine awp_rq zs [4] ?_
    refine awp_ret ?_
    try simp only [go_sem, seval]
    first | (simp_all [cmpI]; done) | (simp_all [cmpI]; rw [if_neg (by omega), if_neg (by omega)])
  ·skip
   refine awp_skip ?_
   try simp only [go_sem, seval]
   refine hK1 _ _ _ ?_
   first | clear hK1 K1 | skip
   refine awp_seq_k fun K3 hK3 => ?_
   refine awp_rq zs [0, 1, 13] ?_
   refine awp_cnd (fun hb => ?_) (fun hb => ?_)
   ·skip
    refine awp_rq zs [4] ?_
    refine awp_ret ?_
    try simp only [go_sem, seval]
    first | (simp_all [cmpI]; done) | (simp_all [cmpI]; rw [if_neg (by omega), if_neg (by omega)])
   ·skip
    refine awp_skip ?_
    try simp only [go_sem, seval]
    refine hK3 _ _ _ ?_
    first | clear hK3 K3 | skip
    refine awp_seq_k fun K4 hK4 => ?_
    refine awp_rq zs [0, 1, 16] ?_
    refine awp_cnd (fun hb => ?_) (fun hb => ?_)
    ·skip
     refine awp_rq zs [4] ?_
     refine awp_ret ?_
     try simp only [go_sem, seval]
     first | (simp_all [cmpI]; done) | (simp_all [cmpI]; rw [if_neg (by omega), if_neg (by omega)])
    ·skip
     refine awp_skip ?_
     try simp only [go_sem, seval]
     refine hK4 _ _ _ ?_
     first | clear hK4 K4 | skip
     refine awp_seq_k fun K5 hK5 => ?_
     refine awp_rq zs [19] ?_
     refine awp_cnd (fun hb => ?_) (fun hb => ?_)
     ·skip
      refine awp_rq zs [4] ?_
      refine awp_ret ?_
      try simp only [go_sem, seval]
      first | (simp_all [cmpI]; done) | (simp_all [cmpI]; rw [if_neg (by omega), if_neg (by omega)])
     ·skip
      refine awp_skip ?_
      try simp only [go_sem, seval]
      refine hK5 _ _ _ ?_
      first | clear hK5 K5 | skip
      refine awp_rq zs [4] ?_
      refine awp_ret ?_
      try simp only [go_sem, seval]
      first | (simp_all [cmpI]; done) | (simp_all [cmpI]; rw [if_neg (by omega), if_neg (by omega)])
theorem c_bytes_Compare (a b : List UInt8) (H : Heap) (n : Nat) : Ret Tryz.prog 122 [bys a, bys b] H n (.int .i64 (Lib.compareBytes a b)) H n := by
  refine acalls_of_awp Tryz.func122 rfl Tryz.ntmps122 (congrArg Array.toList Tryz.results122) (by simp) ?_
  simp only [go_sem]
  refine awp_rq zs [0, 1] ?_
  refine awp_reg zs [4] fun K hK => ?_
  try simp only [go_sem, seval]
  refine .inr (ext_bytesCompare Tryz.func136 rfl rfl (by decide) rfl a b ?_)
  try simp only [go_sem, seval]
  refine hK _ _ _ ?_; clear hK K
  refine awp_ret ?_
  try simp only [go_sem, seval]
theorem c_cell_steps_s1 (a b : Ent) (H : Heap) (n : Nat) : Ret Tryz.prog 121 [entAV a, entAV b] H n (.int .i64 (stepE 0 a b)) H n := by
  refine Ret.fin ?_
  refine acalls_of_awp Tryz.func121 rfl Tryz.ntmps121 (congrArg Array.toList Tryz.results121) (by simp) ?_
  simp only [go_sem]
  refine awp_rq zs [2, 3] ?_
  refine awp_reg zs [4] fun K hK => ?_
  try simp only [go_sem, seval]
  refine callK_use Tryz.func122 rfl rfl rfl ((c_bytes_Compare a.row b.row _ _)) ?_
  try simp only [go_sem, seval]
  refine hK _ _ _ ?_; clear hK K
  refine awp_ret ?_
  try simp only [go_sem, seval]
  refine ⟨_, rfl, ?_, Frz.eq rfl trivial⟩
  intro k hk; have h0 : k ≠ n := by omega
  have h1 : ∀ j, k ≠ n + j := fun j => by omega
  simp [Heap.put, h0, h1]
theorem c_cell_steps_s2 (a b : Ent) (H : Heap) (n : Nat) : Ret Tryz.prog 123 [entAV a, entAV b] H n (.int .i64 (stepE 1 a b)) H n := by
  refine Ret.fin ?_
  refine acalls_of_awp Tryz.func123 rfl Tryz.ntmps123 (congrArg Array.toList Tryz.results123) (by simp) ?_
  simp only [go_sem]
  refine awp_rq zs [2, 3] ?_
  refine awp_reg zs [4] fun K hK => ?_
  try simp only [go_sem, seval]
  refine callK_use Tryz.func124 rfl rfl rfl ((c_cmp_Compare a.fam b.fam _ _)) ?_
  try simp only [go_sem, seval]
  refine hK _ _ _ ?_; clear hK K
  refine awp_ret ?_
  try simp only [go_sem, seval]
  refine ⟨_, rfl, ?_, Frz.eq rfl trivial⟩
  intro k hk; have h0 : k ≠ n := by omega
  have h1 : ∀ j, k ≠ n + j := fun j => by omega
  simp [Heap.put, h0, h1]
theorem c_cell_steps_s3 (a b : Ent) (H : Heap) (n : Nat) : Ret Tryz.prog 125 [entAV a, entAV b] H n (.int .i64 (stepE 2 a b)) H n := by
  refine Ret.fin ?_
  refine acalls_of_awp Tryz.func125 rfl Tryz.ntmps125 (congrArg Array.toList Tryz.results125) (by simp) ?_
  simp only [go_sem]
  refine awp_rq zs [2, 3] ?_
  refine awp_reg zs [4] fun K hK => ?_
  try simp only [go_sem, seval]
  refine callK_use Tryz.func126 rfl rfl rfl ((c_cell_first 5 a b _ _)) ?_
  try simp only [go_sem, seval]
  refine hK _ _ _ ?_; clear hK K
  refine awp_ret ?_
  try simp only [go_sem, seval]
  refine ⟨_, rfl, ?_, Frz.eq rfl trivial⟩
  intro k hk; have h0 : k ≠ n := by omega
  have h1 : ∀ j, k ≠ n + j := fun j => by omega
  simp [Heap.put, h0, h1]
theorem c_cell_steps_s4 (a b : Ent) (H : Heap) (n : Nat) : Ret Tryz.prog 127 [entAV a, entAV b] H n (.int .i64 (stepE 3 a b)) H n := by
  refine Ret.fin ?_
  refine acalls_of_awp Tryz.func127 rfl Tryz.ntmps127 (congrArg Array.toList Tryz.results127) (by simp) ?_
  simp only [go_sem]
  refine awp_rq zs [2, 3] ?_
  refine awp_reg zs [4] fun K hK => ?_
  try simp only [go_sem, seval]
  refine callK_use Tryz.func122 rfl rfl rfl ((c_bytes_Compare a.qual b.qual _ _)) ?_
  try simp only [go_sem, seval]
  refine hK _ _ _ ?_; clear hK K
  refine awp_ret ?_
  try simp only [go_sem, seval]
  refine ⟨_, rfl, ?_, Frz.eq rfl trivial⟩
  intro k hk; have h0 : k ≠ n := by omega
  have h1 : ∀ j, k ≠ n + j := fun j => by omega
  simp [Heap.put, h0, h1]
theorem c_cell_steps_s5 (a b : Ent) (H : Heap) (n : Nat) : Ret Tryz.prog 128 [entAV a, entAV b] H n (.int .i64 (stepE 4 a b)) H n := by
  refine Ret.fin ?_
  refine acalls_of_awp Tryz.func128 rfl Tryz.ntmps128 (congrArg Array.toList Tryz.results128) (by simp) ?_
  simp only [go_sem]
  refine awp_rq zs [2, 3] ?_
  refine awp_reg zs [4] fun K hK => ?_
  try simp only [go_sem, seval]
  refine callK_use Tryz.func126 rfl rfl rfl ((c_cell_first 4 a b _ _)) ?_
  try simp only [go_sem, seval]
  refine hK _ _ _ ?_; clear hK K
  refine awp_ret ?_
  try simp only [go_sem, seval]
  refine ⟨_, rfl, ?_, Frz.eq rfl trivial⟩
  intro k hk; have h0 : k ≠ n := by omega
  have h1 : ∀ j, k ≠ n + j := fun j => by omega
  simp [Heap.put, h0, h1]
theorem c_cell_steps_s6 (a b : Ent) (H : Heap) (n : Nat) : Ret Tryz.prog 129 [entAV a, entAV b] H n (.int .i64 (stepE 5 a b)) H n := by
  refine Ret.fin ?_
  refine acalls_of_awp Tryz.func129 rfl Tryz.ntmps129 (congrArg Array.toList Tryz.results129) (by simp) ?_
  simp only [go_sem]
  refine awp_rq zs [2, 3] ?_
  refine awp_reg zs [4] fun K hK => ?_
  try simp only [go_sem, seval]
  refine callK_use Tryz.func124 rfl rfl rfl ((c_cmp_Compare b.ts a.ts _ _)) ?_
  try simp only [go_sem, seval]
  refine hK _ _ _ ?_; clear hK K
  refine awp_ret ?_
  try simp only [go_sem, seval]
  refine ⟨_, rfl, ?_, Frz.eq rfl trivial⟩
  intro k hk; have h0 : k ≠ n := by omega
  have h1 : ∀ j, k ≠ n + j := fun j => by omega
  simp [Heap.put, h0, h1]
theorem c_cell_steps_s7 (a b : Ent) (H : Heap) (n : Nat) : Ret Tryz.prog 130 [entAV a, entAV b] H n (.int .i64 (stepE 6 a b)) H n := by
  refine Ret.fin ?_
  refine acalls_of_awp Tryz.func130 rfl Tryz.ntmps130 (congrArg Array.toList Tryz.results130) (by simp) ?_
  simp only [go_sem]
  refine awp_rq zs [2, 3] ?_
  refine awp_reg zs [4] fun K hK => ?_
  try simp only [go_sem, seval]
  refine callK_use Tryz.func124 rfl rfl rfl ((c_cmp_Compare b.seq a.seq _ _)) ?_
  try simp only [go_sem, seval]
  refine hK _ _ _ ?_; clear hK K
  refine awp_ret ?_
  try simp only [go_sem, seval]
  refine ⟨_, rfl, ?_, Frz.eq rfl trivial⟩
  intro k hk; have h0 : k ≠ n := by omega
  have h1 : ∀ j, k ≠ n + j := fun j => by omega
  simp [Heap.put, h0, h1]
theorem c_cell_steps_s8 (a b : Ent) (H : Heap) (n : Nat) : Ret Tryz.prog 131 [entAV a, entAV b] H n (.int .i64 (stepE 7 a b)) H n := by
  refine Ret.fin ?_
  refine acalls_of_awp Tryz.func131 rfl Tryz.ntmps131 (congrArg Array.toList Tryz.results131) (by simp) ?_
  simp only [go_sem]
  refine awp_rq zs [2, 3] ?_
  refine awp_reg zs [4] fun K hK => ?_
  try simp only [go_sem, seval]
  refine callK_use Tryz.func124 rfl rfl rfl ((c_cmp_Compare a.kind b.kind _ _)) ?_
  try simp only [go_sem, seval]
  refine hK _ _ _ ?_; clear hK K
  refine awp_ret ?_
  try simp only [go_sem, seval]
  refine ⟨_, rfl, ?_, Frz.eq rfl trivial⟩
  intro k hk; have h0 : k ≠ n := by omega
  have h1 : ∀ j, k ≠ n + j := fun j => by omega
  simp [Heap.put, h0, h1]
end Go.Proofs.YtijhkfhflpmajaaGreat
namespace Go.Proofs.YtijhkfhflpmajaaGreat
open Go Go.Sx Go.Rt Go.Proofs
def stepsL : List AV := [.fn (.func 121) [] [], .fn (.func 123) [] [], .fn (.func 125) [] [], .fn (.func 127) [] [], .fn (.func 128) [] [], .fn (.func 129) [] [], .fn (.func 130) [] [], .fn (.func 131) [] []]
theorem c_cell_steps (H : Heap) (n : Nat) : Ret Tryz.prog 100 [] H n (.agg stepsL) H n := by
  refine Ret.fin ?_
  refine acalls_of_awp Tryz.func100 rfl Tryz.ntmps100 (congrArg Array.toList Tryz.results100) (by simp) ?_
  simp only [go_sem]
  refine awp_rq zs [0] ?_
  refine awp_rq zs [0] ?_
  refine awp_ret ?_
  try simp only [go_sem, seval]
  refine ⟨_, rfl, ?_, Frz.eq rfl ?_⟩
  · intro k hk; have h0 : k ≠ n := by omega
    simp [Heap.put, h0]
  simp [AV.kl, AV.kls]
theorem stepAt (i : Nat) (hi : i < 8) : ∃ g fn, nth stepsL i = .fn (.func g) [] [] ∧ Tryz.prog.funcs[g]? = some fn ∧ fn.body.isSome = true ∧ (fn.name == "runtime.NumGoroutine") = false ∧ ∀ a b H n, Ret Tryz.prog g [entAV a, entAV b] H n (.int .i64 (stepE i a b)) H n := by
  match i, hi with
  | 0, _ => exact ⟨_, _, rfl, Tryz.func121, rfl, rfl, c_cell_steps_s1⟩
  | 1, _ => exact ⟨_, _, rfl, Tryz.func123, rfl, rfl, c_cell_steps_s2⟩
  | 2, _ => exact ⟨_, _, rfl, Tryz.func125, rfl, rfl, c_cell_steps_s3⟩
  | 3, _ => exact ⟨_, _, rfl, Tryz.func127, rfl, rfl, c_cell_steps_s4⟩
  | 4, _ => exact ⟨_, _, rfl, Tryz.func128, rfl, rfl, c_cell_steps_s5⟩
  | 5, _ => exact ⟨_, _, rfl, Tryz.func129, rfl, rfl, c_cell_steps_s6⟩
  | 6, _ => exact ⟨_, _, rfl, Tryz.func130, rfl, rfl, c_cell_steps_s7⟩
  | 7, _ => exact ⟨_, _, rfl, Tryz.func131, rfl, rfl, c_cell_steps_s8⟩
theorem c_cell_Compare (a b : Ent) (H : Heap) (n : Nat) : Ret Tryz.prog 66 [entAV a, entAV b] H n (.int .i64 (compE a b)) H n := by
  refine Ret.fin ?_
  refine acalls_of_awp Tryz.func66 rfl Tryz.ntmps66 (congrArg Array.toList Tryz.results66) (by simp) ?_
  simp only [go_sem]
  refine awp_rq zs [2, 3] ?_
  refine awp_seq_k fun K1 hK1 => ?_
  refine awp_reg zs [2, 3, 8, 9] fun K hK => ?_
  try simp only [go_sem, seval]
  refine callK_use Tryz.func100 rfl rfl rfl ((c_cell_steps _ _)) ?_
  refine hK _ _ _ ?_; clear hK K
  refine awp_block ?_
  refine awp_loop (fun T' H' n' => ∃ i : Nat, i ≤ 8 ∧ T' = tl [(2, .loc n 0 0 0 []), (3, .loc (n + 1) 0 0 0 []), (8, .agg stepsL), (9, .int .i64 i)] ∧ H' = (H.put n (some (.arr 0 7 [entAV a]))).put (n + 1) (some (.arr 0 7 [entAV b])) ∧ n' = n + 2 ∧ compFrom a b (8 - i) = compE a b) (fun T' _ _ => 8 - iv (T' 9)) ?_ ?_
  ·skip
   exact ⟨0, by omega, rfl, rfl, rfl, rfl⟩
  intro T1 H1 n1
  rintro ⟨i, hi, rfl, rfl, rfl, hc⟩
  refine awp_rq zs [2, 3, 8, 9, 10] ?_
  refine awp_seq_k fun K2 hK2 => ?_
  refine awp_cnd (fun hb => ?_) (fun hb => ?_)
  ·skip
   have hlt : i < 8 := by simp at hb; omega
   obtain ⟨g, gfn, hg, hgf, hgb, hgn, hgc⟩ := stepAt i hlt
   rw [show 8 - i = (7 - i) + 1 by omega, compFrom, show 7 - (7 - i) = i by omega] at hc
   refine awp_skip ?_
   try simp only [go_sem, seval]
   refine hK2 _ _ _ ?_
   first | clear hK2 K2 | skip
   refine awp_seq_k fun K3 hK3 => ?_
   refine awp_block ?_
   refine awp_reg zs [2, 3, 6, 8, 9] fun K hK => ?_
   try simp only [go_sem, seval, Int.toNat_natCast, hg]
   repeat (first | (refine And.intro ?_ ?_; · first | exact ⟨by omega, by omega, rfl, by simp [stepsL, AV.sz], by simp [stepsL, AV.isAgg]⟩) | refine peel ?_)
   refine hK _ _ _ ?_; clear hK K
   refine awp_reg zs [2, 3, 7, 8, 9] fun K hK => ?_
   try simp only [go_sem, seval]
   refine callK_use hgf hgb hgn rfl (hgc a b _ _) ?_
   try simp only [go_sem, seval]
   refine hK _ _ _ ?_; clear hK K
   refine awp_rq zs [2, 3, 7, 8, 9, 17] ?_
   refine awp_cnd (fun hb => ?_) (fun hb => ?_)
   ·skip
    have h0 : stepE i a b ≠ 0 := by simpa using hb
    rw [if_pos h0] at hc
    refine awp_rq zs [4] ?_
    refine awp_ret ?_
    try simp only [go_sem, seval]
    refine ⟨_, rfl, ?_, Frz.eq (by rw [hc]) trivial⟩
    intro k hk; have h0 : k ≠ n := by omega
    have h1 : ∀ j, k ≠ n + j := fun j => by omega
    simp [Heap.put, h0, h1]
   ·skip
    have h0 : ¬ stepE i a b ≠ 0 := by simpa using hb
    rw [if_neg h0] at hc
    refine awp_skip ?_
    try simp only [go_sem, seval]
    refine hK3 _ _ _ ?_
    first | clear hK3 K3 | skip
    refine awp_reg1 zs [2, 3, 8, 9] fun K hK => ?_
    try simp only [go_sem, seval]
    refine hK _ _ _ ?_; clear hK K
    try simp only [go_sem, seval]
    refine ⟨⟨i + 1, by omega, by rw [w1 (by omega)], by rw [show 8 - (i + 1) = 7 - i by omega]; exact hc⟩, by rw [w1 (by omega)]; simp; omega⟩
  ·skip
   have hge : i = 8 := by simp at hb; omega
   have hc : (0 : Int) = compE a b := by rw [← hc, hge]; rfl
   refine awp_exit ?_
   try simp only [go_sem, seval]
   refine hK1 _ _ _ ?_
   first | clear hK1 K1 | skip
   refine awp_rq zs [4] ?_
   refine awp_ret ?_
   try simp only [go_sem, seval]
   refine ⟨_, rfl, ?_, Frz.eq (by rw [hc]) trivial⟩
   intro k hk; have h0 : k ≠ n := by omega
   have h1 : ∀ j, k ≠ n + j := fun j => by omega
   simp [Heap.put, h0, h1]
end Go.Proofs.YtijhkfhflpmajaaGreat
namespace Go.Proofs.YtijhkfhflpmajaaGreat
open Go Go.Sx Go.Rt Go.Proofs
theorem c_cell_CheckSchema (s : List Fml) (H : Heap) (n : Nat) : Ret Tryz.prog 107 [schAV s] H n (.int .i64 (schemaE s)) H n := by
  refine Ret.fin ?_
  refine acalls_of_awp Tryz.func107 rfl Tryz.ntmps107 (congrArg Array.toList Tryz.results107) (by simp) ?_
  simp only [go_sem]
  refine awp_rq zs [1] ?_
  refine awp_seq_k fun K1 hK1 => ?_
  refine awp_reg zs [1, 8] fun K hK => ?_
  try simp only [go_sem, seval]
  refine callK_use Tryz.func62 rfl rfl rfl ((by apply c_cell_outside <;> first | assumption | omega)) ?_
  refine hK _ _ _ ?_; clear hK K
  refine awp_cnd (fun hb => ?_) (fun hb => ?_)
  ·skip
   have hres : (28 : Int) = schemaE s := by
     have : bout s.length 1 8 = true := by simpa using hb
     simp [schemaE, this]
   refine awp_rq zs [2] ?_
   refine awp_ret ?_
   try simp only [go_sem, seval]
   refine ⟨_, rfl, ?_, Frz.eq (by rw [hres]) trivial⟩
   intro k hk; have h0 : k ≠ n := by omega
   first | (simp [Heap.put, h0]; done) | exact hH k hk | (have h1 : k ≠ n1 := (by omega); simp [Heap.put, h0, h1, hH k hk])
  ·skip
   have hb8 : bout s.length 1 8 = false := by simpa using hb
   have hlen := bout_false hb8
   refine awp_skip ?_
   try simp only [go_sem, seval]
   refine hK1 _ _ _ ?_
   first | clear hK1 K1 | skip
   refine awp_seq_k fun K2 hK2 => ?_
   refine awp_rq zs [1, 10, 11, 12] ?_
   refine awp_block ?_
   refine awp_loop (fun T' H' n' => ∃ i : Nat, i ≤ s.length ∧ T' = tl [(1, .loc n 0 0 0 []), (10, .sl 3 (s.map famAV)), (11, .int .i64 s.length), (12, .int .i64 i)] ∧ n + 1 ≤ n' ∧ H' n = some (.arr 0 1 [schAV s]) ∧ (∀ k, k < n → H' k = H k) ∧ famsBad s (s.drop i) i = famsBad s s 0) (fun T' _ _ => s.length - iv (T' 12)) ?_ ?_
   ·skip
    refine ⟨0, Nat.zero_le _, by rw [List.length_map]; rfl, by omega, ?_, ?_, rfl⟩
    · simp [Heap.put, schAV]
    · intro k hk; have h0 : k ≠ n := by omega
      simp [Heap.put, h0]
   intro T1 H1 n1
   rintro ⟨i, hi, rfl, hn, hHn, hH, hix⟩
   refine awp_rq zs [1, 10, 11, 12, 13] ?_
   refine awp_seq_k fun K3 hK3 => ?_
   refine awp_cnd (fun hb => ?_) (fun hb => ?_)
   ·skip
    have hlt : i < s.length := by simpa using hb
    rw [drop_cons s i hlt, famsBad_cons] at hix
    have hn1 : (n = n1) = False := by simp; omega
    simp only [schAV] at hHn
    refine awp_skip ?_
    try simp only [go_sem, seval]
    refine hK3 _ _ _ ?_
    first | clear hK3 K3 | skip
    refine awp_seq_k fun K4 hK4 => ?_
    refine awp_block ?_
    have hnth : nth (s.map famAV) i = famAV (s.getD i default) := nth_map famAV s i hlt
    refine awp_reg zs [1, 3, 4, 10, 11, 12] fun K hK => ?_
    try simp only [go_sem, seval, Int.toNat_natCast, hnth]
    repeat refine peel ?_
    refine hK _ _ _ ?_; clear hK K
    refine awp_reg zs [1, 10, 11, 12, 38] fun K hK => ?_
    try simp only [go_sem, seval, Int.toNat_natCast]
    refine callK_use Tryz.func132 rfl rfl rfl ((c_cell_named (s.getD i default).name _ _)) ?_
    try simp only [go_sem, seval, hn1, hHn]
    refine callG_use Tryz.func133 rfl rfl rfl (fun _ => (c_cell_Family s (s.getD i default).name (by omega) _ _)) ?_
    try simp only [go_sem, seval]
    repeat refine peel ?_
    refine callG_use Tryz.func62 rfl rfl rfl (fun _ => (c_cell_outside (s.getD i default).max 1 16 _ _)) ?_
    try simp only [go_sem, seval]
    repeat refine peel ?_
    refine callG_use Tryz.func62 rfl rfl rfl (fun _ => (c_cell_outside (s.getD i default).ttl 0 1099511627776 _ _)) ?_
    try simp only [go_sem, seval]
    repeat refine peel ?_
    refine hK _ _ _ ?_; clear hK K
    refine awp_cnd (fun hb => ?_) (fun hb => ?_)
    ·skip
     have hbad : famBad s (s.getD i default) i = true := by
       simp only [famBad]; cases h1 : namedB (s.getD i default).name <;> cases h2 : bout (s.getD i default).max 1 16 <;> simp_all
     have hres : (28 : Int) = schemaE s := by rw [hbad] at hix; simp [schemaE, hb8, ← hix]
     refine awp_rq zs [2] ?_
     refine awp_ret ?_
     try simp only [go_sem, seval]
     refine ⟨_, rfl, ?_, Frz.eq (by rw [hres]) trivial⟩
     intro k hk; have h0 : k ≠ n := by omega
     first | (simp [Heap.put, h0]; done) | exact hH k hk | (have h1 : k ≠ n1 := (by omega); simp [Heap.put, h0, h1, hH k hk])
    ·skip
     have hbad : famBad s (s.getD i default) i = false := by
       simp only [famBad]; cases h1 : namedB (s.getD i default).name <;> cases h2 : bout (s.getD i default).max 1 16 <;> simp_all
     rw [hbad, Bool.false_or] at hix
     refine awp_skip ?_
     try simp only [go_sem, seval]
     refine hK4 _ _ _ ?_
     first | clear hK4 K4 | skip
     refine awp_reg1 zs [1, 10, 11, 12] fun K hK => ?_
     try simp only [go_sem, seval]
     refine hK _ _ _ ?_; clear hK K
     try simp only [go_sem, seval]
     refine ⟨⟨i + 1, by omega, by rw [w1 (by omega)], by omega, ?_, ?_, hix⟩, by rw [w1 (by omega)]; simp; omega⟩
     · simp [hn1, hHn, schAV]
     · intro k hk; have h0 : k ≠ n1 := by omega
       simp [h0, hH k hk]
   ·skip
    have hge : i = s.length := by simp at hb; omega
    have hres : (0 : Int) = schemaE s := by rw [hge] at hix; simp [famsBad] at hix; simp [schemaE, hb8, hix]
    refine awp_exit ?_
    try simp only [go_sem, seval]
    refine hK2 _ _ _ ?_
    first | clear hK2 K2 | skip
    refine awp_rq zs [2] ?_
    refine awp_ret ?_
    try simp only [go_sem, seval]
    refine ⟨_, rfl, ?_, Frz.eq (by rw [hres]) trivial⟩
    intro k hk; have h0 : k ≠ n := by omega
    first | (simp [Heap.put, h0]; done) | exact hH k hk | (have h1 : k ≠ n1 := (by omega); simp [Heap.put, h0, h1, hH k hk])
theorem c_retain_bounds (s : List Fml) (clock : Int) (times : List Int) (kk : Int) (hl : times.length ≤ 1048576) (H : Heap) (n : Nat) : Ret Tryz.prog 72 [schAV s, .int .i64 clock, intsAV times, .int .i64 kk] H n (.int .i64 (boundsE s clock times kk)) H n := by
  refine Ret.fin ?_
  refine acalls_of_awp Tryz.func72 rfl Tryz.ntmps72 (congrArg Array.toList Tryz.results72) (by simp) ?_
  simp only [go_sem]
  refine awp_rq zs [1, 2, 3, 4] ?_
  refine awp_seq_k fun K1 hK1 => ?_
  refine awp_reg zs [1, 2, 3, 9] fun K hK => ?_
  try simp only [go_sem, ↓reduceIte, Nat.reduceEqDiff, Nat.reduceLT]
  refine callK_use Tryz.func107 rfl rfl rfl ((c_cell_CheckSchema s _ _)) ?_
  try simp only [go_sem]
  refine hK _ _ _ ?_; clear hK K
  refine awp_rq zs [1, 2, 3, 9, 15] ?_
  refine awp_cnd (fun hb => ?_) (fun hb => ?_)
  ·skip
   have hs : schemaE s ≠ 0 := by simpa using hb
   have hres : schemaE s = boundsE s clock times kk := by simp [boundsE, hs]
   refine awp_rq zs [8] ?_
   refine awp_ret ?_
   try simp only [go_sem, ↓reduceIte]
   refine ⟨_, rfl, ?_, Frz.eq (by rw [hres]) trivial⟩
   intro k hk; have h0 : k ≠ n := by omega
   first | (simp [Heap.put, h0]; done) | exact hH k hk
  ·skip
   have hs : schemaE s = 0 := by simpa using hb
   refine awp_skip ?_
   try simp only [go_sem]
   refine hK1 _ _ _ ?_
   first | clear hK1 K1 | skip
   refine awp_seq_k fun K2 hK2 => ?_
   refine awp_reg zo [3, 20, 21, 22] fun K hK => ?_
   try simp only [go_sem, ↓reduceIte, Nat.reduceEqDiff, Nat.reduceLT]
   repeat (first | (refine And.intro ?_ ?_; · first | exact ⟨rfl, by decide, by simp [AV.sz, AV.memOK]⟩ | exact ⟨by omega, .inr trivial, by simp; omega, by simp; omega⟩) | refine peel ?_)
   refine hK _ _ _ ?_; clear hK K
   refine awp_block ?_
   refine awp_loop (fun T' H' n' => ∃ i : Nat, i ≤ times.length + 1 ∧ T' = tl [(3, .int .i64 kk), (20, .osl (n + 1) 1 0 (1 + times.length)), (21, .int .i64 (1 + times.length : Nat)), (22, .int .i64 i)] ∧ n + 2 ≤ n' ∧ H' (n + 1) = some (.arr 1 1 ((clock :: times).map fun x => .int .i64 x)) ∧ (∀ k, k < n → H' k = H k) ∧ timesBad ((clock :: times).drop i) = timesBad (clock :: times)) (fun T' _ _ => times.length + 1 - iv (T' 22)) ?_ ?_
   ·skip
    refine ⟨0, by omega, by rw [List.length_map]; rfl, by omega, ?_, ?_, rfl⟩
    · simp [Heap.put]
    · intro k hk; have h0 : k ≠ n := by omega
      have h1 : ∀ j, k ≠ n + j := fun j => by omega
      simp [Heap.put, h0, h1]
   intro T1 H1 n1
   rintro ⟨i, hi, rfl, hn, hHn, hH, hix⟩
   refine awp_rq zs [3, 20, 21, 22, 23] ?_
   refine awp_seq_k fun K3 hK3 => ?_
   refine awp_cnd (fun hb => ?_) (fun hb => ?_)
   ·skip
    have hlt : i < (clock :: times).length := by simp at hb ⊢; omega
    rw [drop_cons _ i hlt, timesBad, List.any_cons] at hix
    refine awp_skip ?_
    try simp only [go_sem, ↓reduceIte, Nat.reduceEqDiff]
    refine hK3 _ _ _ ?_
    first | clear hK3 K3 | skip
    refine awp_seq_k fun K4 hK4 => ?_
    refine awp_block ?_
    have hnth : nth (AV.int .i64 clock :: times.map fun x => AV.int .i64 x) i = .int .i64 ((clock :: times).getD i default) := nth_map (fun x => AV.int .i64 x) _ i hlt
    simp only [List.map_cons] at hHn
    refine awp_reg zs [3, 11, 20, 21, 22] fun K hK => ?_
    try simp only [go_sem, ↓reduceIte, Nat.reduceEqDiff, Nat.reduceLT, Int.toNat_natCast, hHn, hnth]
    repeat (first | (refine And.intro ?_ ?_; · first | (simp at hlt ⊢; omega) | exact ⟨by simp at hlt ⊢; omega, rfl, rfl⟩) | refine peel ?_)
    refine hK _ _ _ ?_; clear hK K
    refine awp_reg zs [3, 20, 21, 22, 27] fun K hK => ?_
    try simp only [go_sem, ↓reduceIte, Nat.reduceEqDiff, Nat.reduceLT]
    refine callK_use Tryz.func108 rfl rfl rfl ((by apply c_retain_outside <;> first | assumption | omega)) ?_
    refine hK _ _ _ ?_; clear hK K
    refine awp_cnd (fun hb => ?_) (fun hb => ?_)
    ·skip
     have hbad : bout ((clock :: times).getD i default) 0 1099511627776 = true := hb
     have hres : (32 : Int) = boundsE s clock times kk := by rw [hbad] at hix; simp only [Bool.true_or] at hix; simp [boundsE, hs, ← hix]
     refine awp_rq zs [8] ?_
     refine awp_ret ?_
     try simp only [go_sem, ↓reduceIte, Nat.reduceEqDiff]
     refine ⟨_, rfl, ?_, Frz.eq (by rw [hres]) trivial⟩
     intro k hk; have h0 : k ≠ n := by omega
     first | (simp [Heap.put, h0]; done) | exact hH k hk
    ·skip
     have hbad : bout ((clock :: times).getD i default) 0 1099511627776 = false := hb
     rw [hbad, Bool.false_or] at hix
     refine awp_skip ?_
     try simp only [go_sem, ↓reduceIte, Nat.reduceEqDiff]
     refine hK4 _ _ _ ?_
     first | clear hK4 K4 | skip
     refine awp_reg1 zs [3, 20, 21, 22] fun K hK => ?_
     try simp only [go_sem, ↓reduceIte, Nat.reduceEqDiff, Nat.reduceLT]
     refine hK _ _ _ ?_; clear hK K
     try simp only [go_sem, ↓reduceIte, Nat.reduceEqDiff]
     refine ⟨⟨i + 1, by simp at hlt; omega, by rw [w1 (by simp at hlt; omega)], hn, hHn, hH, hix⟩, by rw [w1 (by simp at hlt; omega)]; simp at hlt ⊢; omega⟩
   ·skip
    have hge : i = (clock :: times).length := by simp at hb ⊢; omega
    have hok : timesBad (clock :: times) = false := by rw [← hix, hge]; simp [timesBad]
    refine awp_exit ?_
    try simp only [go_sem, ↓reduceIte, Nat.reduceEqDiff]
    refine hK2 _ _ _ ?_
    first | clear hK2 K2 | skip
    refine awp_seq_k fun K5 hK5 => ?_
    refine awp_rq zs [34] ?_
    refine awp_cnd (fun hb => ?_) (fun hb => ?_)
    ·skip
     have hbad : bout kk 1 16 = true := by unfold bout; cases h1 : decide (kk < 1) <;> simp_all
     have hres : (32 : Int) = boundsE s clock times kk := by simp [boundsE, hs, hok, hbad]
     refine awp_rq zs [8] ?_
     refine awp_ret ?_
     try simp only [go_sem, ↓reduceIte]
     refine ⟨_, rfl, ?_, Frz.eq (by rw [hres]) trivial⟩
     intro k hk; have h0 : k ≠ n := by omega
     first | (simp [Heap.put, h0]; done) | exact hH k hk
    ·skip
     have hbad : bout kk 1 16 = false := by unfold bout; cases h1 : decide (kk < 1) <;> simp_all
     have hres : (0 : Int) = boundsE s clock times kk := by simp [boundsE, hs, hok, hbad]
     refine awp_skip ?_
     try simp only [go_sem]
     refine hK5 _ _ _ ?_
     first | clear hK5 K5 | skip
     refine awp_rq zs [8] ?_
     refine awp_ret ?_
     try simp only [go_sem, ↓reduceIte]
     refine ⟨_, rfl, ?_, Frz.eq (by rw [hres]) trivial⟩
     intro k hk; have h0 : k ≠ n := by omega
     first | (simp [Heap.put, h0]; done) | exact hH k hk
end Go.Proofs.YtijhkfhflpmajaaGreat