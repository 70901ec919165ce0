/- Own layer: facts of the program, reckoned. Of the program; no condition. -/
import Derived.Test.YtifnhpmeoogedaaGreatDoorPD
import Derived.Test.YtifnhpmeoogedaaGreatDoorChecked
import Derived.Test.YtifnhpmeoogedaaGreatDoorPE
import Derived.Recover
set_option linter.unusedSimpArgs false
set_option linter.unusedVariables false
namespace Go.Proofs.YtifnhpmeoogedaaGreatDoor
open Go Go.Sx Go.Proofs
theorem tS_3 : tSome Tryz.prog 3 = true := by kernel_rfl
theorem tA_3 : tAgg Tryz.prog 3 = false := by kernel_rfl
theorem tZ_3 : tSz Tryz.prog 3 = some 1 := by kernel_rfl
theorem tI_3 : tInt Tryz.prog 3 = some .i64 := by kernel_rfl
theorem tS_4 : tSome Tryz.prog 4 = true := by kernel_rfl
theorem tA_4 : tAgg Tryz.prog 4 = false := by kernel_rfl
theorem tZ_4 : tSz Tryz.prog 4 = some 1 := by kernel_rfl
theorem tBo_4 : tIsBool Tryz.prog 4 = true := by kernel_rfl
theorem tS_5 : tSome Tryz.prog 5 = true := by kernel_rfl
theorem tA_5 : tAgg Tryz.prog 5 = false := by kernel_rfl
theorem tZ_5 : tSz Tryz.prog 5 = some 1 := by kernel_rfl
theorem tI_5 : tInt Tryz.prog 5 = some .u8 := by kernel_rfl
theorem tS_9 : tSome Tryz.prog 9 = true := by kernel_rfl
theorem tA_9 : tAgg Tryz.prog 9 = false := by kernel_rfl
theorem tZ_9 : tSz Tryz.prog 9 = some 1 := by kernel_rfl
theorem tStr_9 : tIsStr Tryz.prog 9 = true := by kernel_rfl
theorem tS_20 : tSome Tryz.prog 20 = true := by kernel_rfl
theorem tA_20 : tAgg Tryz.prog 20 = false := by kernel_rfl
theorem tZ_20 : tSz Tryz.prog 20 = some 1 := by kernel_rfl
theorem tIf_20 : tIsIf Tryz.prog 20 = true := by kernel_rfl
theorem tAny_20 : tIsAny Tryz.prog 20 = true := by kernel_rfl
theorem tS_22 : tSome Tryz.prog 22 = true := by kernel_rfl
theorem tA_22 : tAgg Tryz.prog 22 = false := by kernel_rfl
theorem tZ_22 : tSz Tryz.prog 22 = some 1 := by kernel_rfl
theorem tE_22 : tElem Tryz.prog 22 = some 3 := by kernel_rfl
theorem tEl_22 : tEl Tryz.prog 22 = some (3, 32) := by kernel_rfl
theorem tSl_22 : tIsSl Tryz.prog 22 = true := by kernel_rfl
theorem tBy_22 : tIsBy Tryz.prog 22 = false := by kernel_rfl
theorem tS_24 : tSome Tryz.prog 24 = true := by kernel_rfl
theorem tA_24 : tAgg Tryz.prog 24 = true := by kernel_rfl
theorem tZ_24 : tSz Tryz.prog 24 = some 1 := by kernel_rfl
theorem tF_24_0 : tFld Tryz.prog 24 0 = some (0, 1) := by kernel_rfl
theorem tP_24_0 : tPlc Tryz.prog 24 0 = some (0, 1) := by kernel_rfl
theorem tFA_24_0 : tFldA Tryz.prog 24 0 = false := by kernel_rfl
theorem tFS_24_0 : tFldS Tryz.prog 24 0 = true := by kernel_rfl
theorem tSt_24 : tIsSt Tryz.prog 24 = true := by kernel_rfl
theorem tS_25 : tSome Tryz.prog 25 = true := by kernel_rfl
theorem tA_25 : tAgg Tryz.prog 25 = false := by kernel_rfl
theorem tZ_25 : tSz Tryz.prog 25 = some 1 := by kernel_rfl
theorem tE_25 : tElem Tryz.prog 25 = some 1 := by kernel_rfl
theorem tEl_25 : tEl Tryz.prog 25 = some (1, 1) := by kernel_rfl
theorem tSl_25 : tIsSl Tryz.prog 25 = true := by kernel_rfl
theorem tNS_25 : tIsStr Tryz.prog 25 = false := by kernel_rfl
theorem tBy_25 : tIsBy Tryz.prog 25 = true := by kernel_rfl
theorem tET_25 : tElT Tryz.prog 25 = some 5 := by kernel_rfl
theorem tS_26 : tSome Tryz.prog 26 = true := by kernel_rfl
theorem tA_26 : tAgg Tryz.prog 26 = false := by kernel_rfl
theorem tZ_26 : tSz Tryz.prog 26 = some 1 := by kernel_rfl
theorem tE_26 : tElem Tryz.prog 26 = some 4 := by kernel_rfl
theorem tEl_26 : tEl Tryz.prog 26 = some (4, 64) := by kernel_rfl
theorem tSl_26 : tIsSl Tryz.prog 26 = true := by kernel_rfl
theorem tBy_26 : tIsBy Tryz.prog 26 = false := by kernel_rfl
theorem tET_26 : tElT Tryz.prog 26 = some 60 := by kernel_rfl
theorem tS_27 : tSome Tryz.prog 27 = true := by kernel_rfl
theorem tA_27 : tAgg Tryz.prog 27 = false := by kernel_rfl
theorem tZ_27 : tSz Tryz.prog 27 = some 1 := by kernel_rfl
theorem tE_27 : tElem Tryz.prog 27 = some 6 := by kernel_rfl
theorem tEl_27 : tEl Tryz.prog 27 = some (6, 80) := by kernel_rfl
theorem tSl_27 : tIsSl Tryz.prog 27 = true := by kernel_rfl
theorem tBy_27 : tIsBy Tryz.prog 27 = false := by kernel_rfl
theorem tS_28 : tSome Tryz.prog 28 = true := by kernel_rfl
theorem tA_28 : tAgg Tryz.prog 28 = false := by kernel_rfl
theorem tZ_28 : tSz Tryz.prog 28 = some 1 := by kernel_rfl
theorem tE_28 : tElem Tryz.prog 28 = some 1 := by kernel_rfl
theorem tEl_28 : tEl Tryz.prog 28 = some (1, 8) := by kernel_rfl
theorem tSl_28 : tIsSl Tryz.prog 28 = true := by kernel_rfl
theorem tBy_28 : tIsBy Tryz.prog 28 = false := by kernel_rfl
theorem tS_30 : tSome Tryz.prog 30 = true := by kernel_rfl
theorem tA_30 : tAgg Tryz.prog 30 = true := by kernel_rfl
theorem tZ_30 : tSz Tryz.prog 30 = some 10 := by kernel_rfl
theorem tF_30_0 : tFld Tryz.prog 30 0 = some (0, 1) := by kernel_rfl
theorem tP_30_0 : tPlc Tryz.prog 30 0 = some (0, 1) := by kernel_rfl
theorem tFA_30_0 : tFldA Tryz.prog 30 0 = false := by kernel_rfl
theorem tFS_30_0 : tFldS Tryz.prog 30 0 = true := by kernel_rfl
theorem tF_30_1 : tFld Tryz.prog 30 1 = some (1, 1) := by kernel_rfl
theorem tP_30_1 : tPlc Tryz.prog 30 1 = some (1, 1) := by kernel_rfl
theorem tFA_30_1 : tFldA Tryz.prog 30 1 = false := by kernel_rfl
theorem tFS_30_1 : tFldS Tryz.prog 30 1 = true := by kernel_rfl
theorem tF_30_2 : tFld Tryz.prog 30 2 = some (2, 1) := by kernel_rfl
theorem tP_30_2 : tPlc Tryz.prog 30 2 = some (2, 1) := by kernel_rfl
theorem tFA_30_2 : tFldA Tryz.prog 30 2 = false := by kernel_rfl
theorem tFS_30_2 : tFldS Tryz.prog 30 2 = true := by kernel_rfl
theorem tF_30_3 : tFld Tryz.prog 30 3 = some (3, 1) := by kernel_rfl
theorem tP_30_3 : tPlc Tryz.prog 30 3 = some (3, 1) := by kernel_rfl
theorem tFA_30_3 : tFldA Tryz.prog 30 3 = false := by kernel_rfl
theorem tFS_30_3 : tFldS Tryz.prog 30 3 = true := by kernel_rfl
theorem tF_30_4 : tFld Tryz.prog 30 4 = some (4, 1) := by kernel_rfl
theorem tP_30_4 : tPlc Tryz.prog 30 4 = some (4, 1) := by kernel_rfl
theorem tFA_30_4 : tFldA Tryz.prog 30 4 = false := by kernel_rfl
theorem tFS_30_4 : tFldS Tryz.prog 30 4 = true := by kernel_rfl
theorem tF_30_5 : tFld Tryz.prog 30 5 = some (5, 1) := by kernel_rfl
theorem tP_30_5 : tPlc Tryz.prog 30 5 = some (5, 1) := by kernel_rfl
theorem tFA_30_5 : tFldA Tryz.prog 30 5 = false := by kernel_rfl
theorem tFS_30_5 : tFldS Tryz.prog 30 5 = true := by kernel_rfl
theorem tF_30_6 : tFld Tryz.prog 30 6 = some (6, 1) := by kernel_rfl
theorem tP_30_6 : tPlc Tryz.prog 30 6 = some (6, 1) := by kernel_rfl
theorem tFA_30_6 : tFldA Tryz.prog 30 6 = false := by kernel_rfl
theorem tFS_30_6 : tFldS Tryz.prog 30 6 = true := by kernel_rfl
theorem tF_30_7 : tFld Tryz.prog 30 7 = some (7, 1) := by kernel_rfl
theorem tP_30_7 : tPlc Tryz.prog 30 7 = some (7, 1) := by kernel_rfl
theorem tFA_30_7 : tFldA Tryz.prog 30 7 = false := by kernel_rfl
theorem tFS_30_7 : tFldS Tryz.prog 30 7 = true := by kernel_rfl
theorem tF_30_8 : tFld Tryz.prog 30 8 = some (8, 1) := by kernel_rfl
theorem tP_30_8 : tPlc Tryz.prog 30 8 = some (8, 1) := by kernel_rfl
theorem tFA_30_8 : tFldA Tryz.prog 30 8 = false := by kernel_rfl
theorem tFS_30_8 : tFldS Tryz.prog 30 8 = true := by kernel_rfl
theorem tF_30_9 : tFld Tryz.prog 30 9 = some (9, 1) := by kernel_rfl
theorem tP_30_9 : tPlc Tryz.prog 30 9 = some (9, 1) := by kernel_rfl
theorem tFA_30_9 : tFldA Tryz.prog 30 9 = false := by kernel_rfl
theorem tFS_30_9 : tFldS Tryz.prog 30 9 = true := by kernel_rfl
theorem tSt_30 : tIsSt Tryz.prog 30 = true := by kernel_rfl
theorem tS_32 : tSome Tryz.prog 32 = true := by kernel_rfl
theorem tA_32 : tAgg Tryz.prog 32 = true := by kernel_rfl
theorem tZ_32 : tSz Tryz.prog 32 = some 17 := by kernel_rfl
theorem tF_32_0 : tFld Tryz.prog 32 0 = some (0, 1) := by kernel_rfl
theorem tP_32_0 : tPlc Tryz.prog 32 0 = some (0, 1) := by kernel_rfl
theorem tFA_32_0 : tFldA Tryz.prog 32 0 = false := by kernel_rfl
theorem tFS_32_0 : tFldS Tryz.prog 32 0 = true := by kernel_rfl
theorem tF_32_1 : tFld Tryz.prog 32 1 = some (1, 1) := by kernel_rfl
theorem tP_32_1 : tPlc Tryz.prog 32 1 = some (1, 1) := by kernel_rfl
theorem tFA_32_1 : tFldA Tryz.prog 32 1 = false := by kernel_rfl
theorem tFS_32_1 : tFldS Tryz.prog 32 1 = true := by kernel_rfl
theorem tF_32_2 : tFld Tryz.prog 32 2 = some (2, 1) := by kernel_rfl
theorem tP_32_2 : tPlc Tryz.prog 32 2 = some (2, 1) := by kernel_rfl
theorem tFA_32_2 : tFldA Tryz.prog 32 2 = false := by kernel_rfl
theorem tFS_32_2 : tFldS Tryz.prog 32 2 = true := by kernel_rfl
theorem tF_32_3 : tFld Tryz.prog 32 3 = some (3, 1) := by kernel_rfl
theorem tP_32_3 : tPlc Tryz.prog 32 3 = some (3, 1) := by kernel_rfl
theorem tFA_32_3 : tFldA Tryz.prog 32 3 = false := by kernel_rfl
theorem tFS_32_3 : tFldS Tryz.prog 32 3 = true := by kernel_rfl
theorem tF_32_4 : tFld Tryz.prog 32 4 = some (4, 1) := by kernel_rfl
theorem tP_32_4 : tPlc Tryz.prog 32 4 = some (4, 1) := by kernel_rfl
theorem tFA_32_4 : tFldA Tryz.prog 32 4 = false := by kernel_rfl
theorem tFS_32_4 : tFldS Tryz.prog 32 4 = true := by kernel_rfl
theorem tF_32_5 : tFld Tryz.prog 32 5 = some (5, 1) := by kernel_rfl
theorem tP_32_5 : tPlc Tryz.prog 32 5 = some (5, 1) := by kernel_rfl
theorem tFA_32_5 : tFldA Tryz.prog 32 5 = false := by kernel_rfl
theorem tFS_32_5 : tFldS Tryz.prog 32 5 = true := by kernel_rfl
theorem tF_32_6 : tFld Tryz.prog 32 6 = some (6, 1) := by kernel_rfl
theorem tP_32_6 : tPlc Tryz.prog 32 6 = some (6, 1) := by kernel_rfl
theorem tFA_32_6 : tFldA Tryz.prog 32 6 = false := by kernel_rfl
theorem tFS_32_6 : tFldS Tryz.prog 32 6 = true := by kernel_rfl
theorem tF_32_7 : tFld Tryz.prog 32 7 = some (7, 10) := by kernel_rfl
theorem tP_32_7 : tPlc Tryz.prog 32 7 = some (7, 10) := by kernel_rfl
theorem tFA_32_7 : tFldA Tryz.prog 32 7 = true := by kernel_rfl
theorem tFS_32_7 : tFldS Tryz.prog 32 7 = true := by kernel_rfl
theorem tSt_32 : tIsSt Tryz.prog 32 = true := by kernel_rfl
theorem tS_36 : tSome Tryz.prog 36 = true := by kernel_rfl
theorem tA_36 : tAgg Tryz.prog 36 = false := by kernel_rfl
theorem tZ_36 : tSz Tryz.prog 36 = some 1 := by kernel_rfl
theorem tI_36 : tInt Tryz.prog 36 = some .i64 := by kernel_rfl
theorem tS_47 : tSome Tryz.prog 47 = true := by kernel_rfl
theorem tA_47 : tAgg Tryz.prog 47 = false := by kernel_rfl
theorem tZ_47 : tSz Tryz.prog 47 = some 1 := by kernel_rfl
theorem tE_47 : tElem Tryz.prog 47 = some 1 := by kernel_rfl
theorem tEl_47 : tEl Tryz.prog 47 = some (1, 24) := by kernel_rfl
theorem tSl_47 : tIsSl Tryz.prog 47 = true := by kernel_rfl
theorem tBy_47 : tIsBy Tryz.prog 47 = false := by kernel_rfl
theorem tS_49 : tSome Tryz.prog 49 = true := by kernel_rfl
theorem tA_49 : tAgg Tryz.prog 49 = true := by kernel_rfl
theorem tZ_49 : tSz Tryz.prog 49 = some 2 := by kernel_rfl
theorem tF_49_0 : tFld Tryz.prog 49 0 = some (0, 1) := by kernel_rfl
theorem tP_49_0 : tPlc Tryz.prog 49 0 = some (0, 1) := by kernel_rfl
theorem tFA_49_0 : tFldA Tryz.prog 49 0 = false := by kernel_rfl
theorem tFS_49_0 : tFldS Tryz.prog 49 0 = true := by kernel_rfl
theorem tF_49_1 : tFld Tryz.prog 49 1 = some (1, 1) := by kernel_rfl
theorem tP_49_1 : tPlc Tryz.prog 49 1 = some (1, 1) := by kernel_rfl
theorem tFA_49_1 : tFldA Tryz.prog 49 1 = false := by kernel_rfl
theorem tFS_49_1 : tFldS Tryz.prog 49 1 = true := by kernel_rfl
theorem tSt_49 : tIsSt Tryz.prog 49 = true := by kernel_rfl
theorem tS_60 : tSome Tryz.prog 60 = true := by kernel_rfl
theorem tA_60 : tAgg Tryz.prog 60 = true := by kernel_rfl
theorem tZ_60 : tSz Tryz.prog 60 = some 4 := by kernel_rfl
theorem tF_60_0 : tFld Tryz.prog 60 0 = some (0, 1) := by kernel_rfl
theorem tP_60_0 : tPlc Tryz.prog 60 0 = some (0, 1) := by kernel_rfl
theorem tFA_60_0 : tFldA Tryz.prog 60 0 = false := by kernel_rfl
theorem tFS_60_0 : tFldS Tryz.prog 60 0 = true := by kernel_rfl
theorem tF_60_1 : tFld Tryz.prog 60 1 = some (1, 1) := by kernel_rfl
theorem tP_60_1 : tPlc Tryz.prog 60 1 = some (1, 1) := by kernel_rfl
theorem tFA_60_1 : tFldA Tryz.prog 60 1 = false := by kernel_rfl
theorem tFS_60_1 : tFldS Tryz.prog 60 1 = true := by kernel_rfl
theorem tF_60_2 : tFld Tryz.prog 60 2 = some (2, 1) := by kernel_rfl
theorem tP_60_2 : tPlc Tryz.prog 60 2 = some (2, 1) := by kernel_rfl
theorem tFA_60_2 : tFldA Tryz.prog 60 2 = false := by kernel_rfl
theorem tFS_60_2 : tFldS Tryz.prog 60 2 = true := by kernel_rfl
theorem tF_60_3 : tFld Tryz.prog 60 3 = some (3, 1) := by kernel_rfl
theorem tP_60_3 : tPlc Tryz.prog 60 3 = some (3, 1) := by kernel_rfl
theorem tFA_60_3 : tFldA Tryz.prog 60 3 = false := by kernel_rfl
theorem tFS_60_3 : tFldS Tryz.prog 60 3 = true := by kernel_rfl
theorem tSt_60 : tIsSt Tryz.prog 60 = true := by kernel_rfl
theorem tS_62 : tSome Tryz.prog 62 = true := by kernel_rfl
theorem tA_62 : tAgg Tryz.prog 62 = true := by kernel_rfl
theorem tZ_62 : tSz Tryz.prog 62 = some 6 := by kernel_rfl
theorem tF_62_0 : tFld Tryz.prog 62 0 = some (0, 1) := by kernel_rfl
theorem tP_62_0 : tPlc Tryz.prog 62 0 = some (0, 1) := by kernel_rfl
theorem tFA_62_0 : tFldA Tryz.prog 62 0 = false := by kernel_rfl
theorem tFS_62_0 : tFldS Tryz.prog 62 0 = true := by kernel_rfl
theorem tF_62_1 : tFld Tryz.prog 62 1 = some (1, 1) := by kernel_rfl
theorem tP_62_1 : tPlc Tryz.prog 62 1 = some (1, 1) := by kernel_rfl
theorem tFA_62_1 : tFldA Tryz.prog 62 1 = false := by kernel_rfl
theorem tFS_62_1 : tFldS Tryz.prog 62 1 = true := by kernel_rfl
theorem tF_62_2 : tFld Tryz.prog 62 2 = some (2, 1) := by kernel_rfl
theorem tP_62_2 : tPlc Tryz.prog 62 2 = some (2, 1) := by kernel_rfl
theorem tFA_62_2 : tFldA Tryz.prog 62 2 = false := by kernel_rfl
theorem tFS_62_2 : tFldS Tryz.prog 62 2 = true := by kernel_rfl
theorem tF_62_3 : tFld Tryz.prog 62 3 = some (3, 1) := by kernel_rfl
theorem tP_62_3 : tPlc Tryz.prog 62 3 = some (3, 1) := by kernel_rfl
theorem tFA_62_3 : tFldA Tryz.prog 62 3 = false := by kernel_rfl
theorem tFS_62_3 : tFldS Tryz.prog 62 3 = true := by kernel_rfl
theorem tF_62_4 : tFld Tryz.prog 62 4 = some (4, 1) := by kernel_rfl
theorem tP_62_4 : tPlc Tryz.prog 62 4 = some (4, 1) := by kernel_rfl
theorem tFA_62_4 : tFldA Tryz.prog 62 4 = false := by kernel_rfl
theorem tFS_62_4 : tFldS Tryz.prog 62 4 = true := by kernel_rfl
theorem tF_62_5 : tFld Tryz.prog 62 5 = some (5, 1) := by kernel_rfl
theorem tP_62_5 : tPlc Tryz.prog 62 5 = some (5, 1) := by kernel_rfl
theorem tFA_62_5 : tFldA Tryz.prog 62 5 = false := by kernel_rfl
theorem tFS_62_5 : tFldS Tryz.prog 62 5 = true := by kernel_rfl
theorem tSt_62 : tIsSt Tryz.prog 62 = true := by kernel_rfl
theorem tS_65 : tSome Tryz.prog 65 = true := by kernel_rfl
theorem tA_65 : tAgg Tryz.prog 65 = false := by kernel_rfl
theorem tZ_65 : tSz Tryz.prog 65 = some 1 := by kernel_rfl
theorem tE_65 : tElem Tryz.prog 65 = some 2 := by kernel_rfl
theorem tEl_65 : tEl Tryz.prog 65 = some (2, 48) := by kernel_rfl
theorem tSl_65 : tIsSl Tryz.prog 65 = true := by kernel_rfl
theorem tBy_65 : tIsBy Tryz.prog 65 = false := by kernel_rfl
theorem tS_67 : tSome Tryz.prog 67 = true := by kernel_rfl
theorem tA_67 : tAgg Tryz.prog 67 = true := by kernel_rfl
theorem tZ_67 : tSz Tryz.prog 67 = some 3 := by kernel_rfl
theorem tF_67_0 : tFld Tryz.prog 67 0 = some (0, 1) := by kernel_rfl
theorem tP_67_0 : tPlc Tryz.prog 67 0 = some (0, 1) := by kernel_rfl
theorem tFA_67_0 : tFldA Tryz.prog 67 0 = false := by kernel_rfl
theorem tFS_67_0 : tFldS Tryz.prog 67 0 = true := by kernel_rfl
theorem tF_67_1 : tFld Tryz.prog 67 1 = some (1, 1) := by kernel_rfl
theorem tP_67_1 : tPlc Tryz.prog 67 1 = some (1, 1) := by kernel_rfl
theorem tFA_67_1 : tFldA Tryz.prog 67 1 = false := by kernel_rfl
theorem tFS_67_1 : tFldS Tryz.prog 67 1 = true := by kernel_rfl
theorem tF_67_2 : tFld Tryz.prog 67 2 = some (2, 1) := by kernel_rfl
theorem tP_67_2 : tPlc Tryz.prog 67 2 = some (2, 1) := by kernel_rfl
theorem tFA_67_2 : tFldA Tryz.prog 67 2 = false := by kernel_rfl
theorem tFS_67_2 : tFldS Tryz.prog 67 2 = true := by kernel_rfl
theorem tSt_67 : tIsSt Tryz.prog 67 = true := by kernel_rfl
theorem tS_69 : tSome Tryz.prog 69 = true := by kernel_rfl
theorem tA_69 : tAgg Tryz.prog 69 = true := by kernel_rfl
theorem tZ_69 : tSz Tryz.prog 69 = some 6 := by kernel_rfl
theorem tF_69_0 : tFld Tryz.prog 69 0 = some (0, 1) := by kernel_rfl
theorem tP_69_0 : tPlc Tryz.prog 69 0 = some (0, 1) := by kernel_rfl
theorem tFA_69_0 : tFldA Tryz.prog 69 0 = false := by kernel_rfl
theorem tFS_69_0 : tFldS Tryz.prog 69 0 = true := by kernel_rfl
theorem tF_69_1 : tFld Tryz.prog 69 1 = some (1, 1) := by kernel_rfl
theorem tP_69_1 : tPlc Tryz.prog 69 1 = some (1, 1) := by kernel_rfl
theorem tFA_69_1 : tFldA Tryz.prog 69 1 = false := by kernel_rfl
theorem tFS_69_1 : tFldS Tryz.prog 69 1 = true := by kernel_rfl
theorem tF_69_2 : tFld Tryz.prog 69 2 = some (2, 1) := by kernel_rfl
theorem tP_69_2 : tPlc Tryz.prog 69 2 = some (2, 1) := by kernel_rfl
theorem tFA_69_2 : tFldA Tryz.prog 69 2 = false := by kernel_rfl
theorem tFS_69_2 : tFldS Tryz.prog 69 2 = true := by kernel_rfl
theorem tF_69_3 : tFld Tryz.prog 69 3 = some (3, 3) := by kernel_rfl
theorem tP_69_3 : tPlc Tryz.prog 69 3 = some (3, 3) := by kernel_rfl
theorem tFA_69_3 : tFldA Tryz.prog 69 3 = true := by kernel_rfl
theorem tFS_69_3 : tFldS Tryz.prog 69 3 = true := by kernel_rfl
theorem tSt_69 : tIsSt Tryz.prog 69 = true := by kernel_rfl
theorem tS_83 : tSome Tryz.prog 83 = true := by kernel_rfl
theorem tA_83 : tAgg Tryz.prog 83 = false := by kernel_rfl
theorem tZ_83 : tSz Tryz.prog 83 = some 1 := by kernel_rfl
theorem tE_83 : tElem Tryz.prog 83 = some 4 := by kernel_rfl
theorem tEl_83 : tEl Tryz.prog 83 = some (4, 64) := by kernel_rfl
theorem tSl_83 : tIsSl Tryz.prog 83 = true := by kernel_rfl
theorem tBy_83 : tIsBy Tryz.prog 83 = false := by kernel_rfl
theorem tS_85 : tSome Tryz.prog 85 = true := by kernel_rfl
theorem tA_85 : tAgg Tryz.prog 85 = true := by kernel_rfl
theorem tZ_85 : tSz Tryz.prog 85 = some 2 := by kernel_rfl
theorem tF_85_0 : tFld Tryz.prog 85 0 = some (0, 1) := by kernel_rfl
theorem tP_85_0 : tPlc Tryz.prog 85 0 = some (0, 1) := by kernel_rfl
theorem tFA_85_0 : tFldA Tryz.prog 85 0 = false := by kernel_rfl
theorem tFS_85_0 : tFldS Tryz.prog 85 0 = true := by kernel_rfl
theorem tF_85_1 : tFld Tryz.prog 85 1 = some (1, 1) := by kernel_rfl
theorem tP_85_1 : tPlc Tryz.prog 85 1 = some (1, 1) := by kernel_rfl
theorem tFA_85_1 : tFldA Tryz.prog 85 1 = false := by kernel_rfl
theorem tFS_85_1 : tFldS Tryz.prog 85 1 = true := by kernel_rfl
theorem tSt_85 : tIsSt Tryz.prog 85 = true := by kernel_rfl
theorem tS_87 : tSome Tryz.prog 87 = true := by kernel_rfl
theorem tA_87 : tAgg Tryz.prog 87 = true := by kernel_rfl
theorem tZ_87 : tSz Tryz.prog 87 = some 4 := by kernel_rfl
theorem tF_87_0 : tFld Tryz.prog 87 0 = some (0, 1) := by kernel_rfl
theorem tP_87_0 : tPlc Tryz.prog 87 0 = some (0, 1) := by kernel_rfl
theorem tFA_87_0 : tFldA Tryz.prog 87 0 = false := by kernel_rfl
theorem tFS_87_0 : tFldS Tryz.prog 87 0 = true := by kernel_rfl
theorem tF_87_1 : tFld Tryz.prog 87 1 = some (1, 1) := by kernel_rfl
theorem tP_87_1 : tPlc Tryz.prog 87 1 = some (1, 1) := by kernel_rfl
theorem tFA_87_1 : tFldA Tryz.prog 87 1 = false := by kernel_rfl
theorem tFS_87_1 : tFldS Tryz.prog 87 1 = true := by kernel_rfl
theorem tF_87_2 : tFld Tryz.prog 87 2 = some (2, 1) := by kernel_rfl
theorem tP_87_2 : tPlc Tryz.prog 87 2 = some (2, 1) := by kernel_rfl
theorem tFA_87_2 : tFldA Tryz.prog 87 2 = false := by kernel_rfl
theorem tFS_87_2 : tFldS Tryz.prog 87 2 = true := by kernel_rfl
theorem tF_87_3 : tFld Tryz.prog 87 3 = some (3, 1) := by kernel_rfl
theorem tP_87_3 : tPlc Tryz.prog 87 3 = some (3, 1) := by kernel_rfl
theorem tFA_87_3 : tFldA Tryz.prog 87 3 = false := by kernel_rfl
theorem tFS_87_3 : tFldS Tryz.prog 87 3 = true := by kernel_rfl
theorem tSt_87 : tIsSt Tryz.prog 87 = true := by kernel_rfl
theorem tS_89 : tSome Tryz.prog 89 = true := by kernel_rfl
theorem tA_89 : tAgg Tryz.prog 89 = false := by kernel_rfl
theorem tZ_89 : tSz Tryz.prog 89 = some 1 := by kernel_rfl
theorem tE_89 : tElem Tryz.prog 89 = some 3 := by kernel_rfl
theorem tEl_89 : tEl Tryz.prog 89 = some (3, 24) := by kernel_rfl
theorem tSl_89 : tIsSl Tryz.prog 89 = true := by kernel_rfl
theorem tBy_89 : tIsBy Tryz.prog 89 = false := by kernel_rfl
theorem tS_92 : tSome Tryz.prog 92 = true := by kernel_rfl
theorem tA_92 : tAgg Tryz.prog 92 = true := by kernel_rfl
theorem tZ_92 : tSz Tryz.prog 92 = some 3 := by kernel_rfl
theorem tF_92_0 : tFld Tryz.prog 92 0 = some (0, 1) := by kernel_rfl
theorem tP_92_0 : tPlc Tryz.prog 92 0 = some (0, 1) := by kernel_rfl
theorem tFA_92_0 : tFldA Tryz.prog 92 0 = false := by kernel_rfl
theorem tFS_92_0 : tFldS Tryz.prog 92 0 = true := by kernel_rfl
theorem tF_92_1 : tFld Tryz.prog 92 1 = some (1, 1) := by kernel_rfl
theorem tP_92_1 : tPlc Tryz.prog 92 1 = some (1, 1) := by kernel_rfl
theorem tFA_92_1 : tFldA Tryz.prog 92 1 = false := by kernel_rfl
theorem tFS_92_1 : tFldS Tryz.prog 92 1 = true := by kernel_rfl
theorem tF_92_2 : tFld Tryz.prog 92 2 = some (2, 1) := by kernel_rfl
theorem tP_92_2 : tPlc Tryz.prog 92 2 = some (2, 1) := by kernel_rfl
theorem tFA_92_2 : tFldA Tryz.prog 92 2 = false := by kernel_rfl
theorem tFS_92_2 : tFldS Tryz.prog 92 2 = true := by kernel_rfl
theorem tSt_92 : tIsSt Tryz.prog 92 = true := by kernel_rfl
theorem tS_99 : tSome Tryz.prog 99 = true := by kernel_rfl
theorem tA_99 : tAgg Tryz.prog 99 = true := by kernel_rfl
theorem tZ_99 : tSz Tryz.prog 99 = some 3 := by kernel_rfl
theorem tF_99_0 : tFld Tryz.prog 99 0 = some (0, 1) := by kernel_rfl
theorem tP_99_0 : tPlc Tryz.prog 99 0 = some (0, 1) := by kernel_rfl
theorem tFA_99_0 : tFldA Tryz.prog 99 0 = false := by kernel_rfl
theorem tFS_99_0 : tFldS Tryz.prog 99 0 = true := by kernel_rfl
theorem tF_99_1 : tFld Tryz.prog 99 1 = some (1, 1) := by kernel_rfl
theorem tP_99_1 : tPlc Tryz.prog 99 1 = some (1, 1) := by kernel_rfl
theorem tFA_99_1 : tFldA Tryz.prog 99 1 = false := by kernel_rfl
theorem tFS_99_1 : tFldS Tryz.prog 99 1 = true := by kernel_rfl
theorem tF_99_2 : tFld Tryz.prog 99 2 = some (2, 1) := by kernel_rfl
theorem tP_99_2 : tPlc Tryz.prog 99 2 = some (2, 1) := by kernel_rfl
theorem tFA_99_2 : tFldA Tryz.prog 99 2 = false := by kernel_rfl
theorem tFS_99_2 : tFldS Tryz.prog 99 2 = true := by kernel_rfl
theorem tSt_99 : tIsSt Tryz.prog 99 = true := by kernel_rfl
theorem tS_102 : tSome Tryz.prog 102 = true := by kernel_rfl
theorem tA_102 : tAgg Tryz.prog 102 = true := by kernel_rfl
theorem tZ_102 : tSz Tryz.prog 102 = some 5 := by kernel_rfl
theorem tF_102_0 : tFld Tryz.prog 102 0 = some (0, 1) := by kernel_rfl
theorem tP_102_0 : tPlc Tryz.prog 102 0 = some (0, 1) := by kernel_rfl
theorem tFA_102_0 : tFldA Tryz.prog 102 0 = false := by kernel_rfl
theorem tFS_102_0 : tFldS Tryz.prog 102 0 = true := by kernel_rfl
theorem tF_102_1 : tFld Tryz.prog 102 1 = some (1, 1) := by kernel_rfl
theorem tP_102_1 : tPlc Tryz.prog 102 1 = some (1, 1) := by kernel_rfl
theorem tFA_102_1 : tFldA Tryz.prog 102 1 = false := by kernel_rfl
theorem tFS_102_1 : tFldS Tryz.prog 102 1 = true := by kernel_rfl
theorem tF_102_2 : tFld Tryz.prog 102 2 = some (2, 1) := by kernel_rfl
theorem tP_102_2 : tPlc Tryz.prog 102 2 = some (2, 1) := by kernel_rfl
theorem tFA_102_2 : tFldA Tryz.prog 102 2 = false := by kernel_rfl
theorem tFS_102_2 : tFldS Tryz.prog 102 2 = true := by kernel_rfl
theorem tF_102_3 : tFld Tryz.prog 102 3 = some (3, 1) := by kernel_rfl
theorem tP_102_3 : tPlc Tryz.prog 102 3 = some (3, 1) := by kernel_rfl
theorem tFA_102_3 : tFldA Tryz.prog 102 3 = false := by kernel_rfl
theorem tFS_102_3 : tFldS Tryz.prog 102 3 = true := by kernel_rfl
theorem tF_102_4 : tFld Tryz.prog 102 4 = some (4, 1) := by kernel_rfl
theorem tP_102_4 : tPlc Tryz.prog 102 4 = some (4, 1) := by kernel_rfl
theorem tFA_102_4 : tFldA Tryz.prog 102 4 = false := by kernel_rfl
theorem tFS_102_4 : tFldS Tryz.prog 102 4 = true := by kernel_rfl
theorem tSt_102 : tIsSt Tryz.prog 102 = true := by kernel_rfl
theorem tS_103 : tSome Tryz.prog 103 = true := by kernel_rfl
theorem tA_103 : tAgg Tryz.prog 103 = true := by kernel_rfl
theorem tZ_103 : tSz Tryz.prog 103 = some 40 := by kernel_rfl
theorem tAy_103 : tAry Tryz.prog 103 = some (8, 5) := by kernel_rfl
theorem tAr_103 : tArr Tryz.prog 103 = some (8, 5, true) := by kernel_rfl
theorem tP_103_0 : tPlc Tryz.prog 103 0 = some (0, 5) := by kernel_rfl
theorem tP_103_1 : tPlc Tryz.prog 103 1 = some (5, 5) := by kernel_rfl
theorem tP_103_2 : tPlc Tryz.prog 103 2 = some (10, 5) := by kernel_rfl
theorem tP_103_3 : tPlc Tryz.prog 103 3 = some (15, 5) := by kernel_rfl
theorem tP_103_4 : tPlc Tryz.prog 103 4 = some (20, 5) := by kernel_rfl
theorem tP_103_5 : tPlc Tryz.prog 103 5 = some (25, 5) := by kernel_rfl
theorem tP_103_6 : tPlc Tryz.prog 103 6 = some (30, 5) := by kernel_rfl
theorem tP_103_7 : tPlc Tryz.prog 103 7 = some (35, 5) := by kernel_rfl
theorem tSt_103 : tIsSt Tryz.prog 103 = true := by kernel_rfl
theorem tArS_103 : qIndex.tArrS Tryz.prog 103 = true := by kernel_rfl
theorem tS_105 : tSome Tryz.prog 105 = true := by kernel_rfl
theorem tA_105 : tAgg Tryz.prog 105 = false := by kernel_rfl
theorem tZ_105 : tSz Tryz.prog 105 = some 1 := by kernel_rfl
theorem tFn_105 : tIsFn Tryz.prog 105 = true := by kernel_rfl
theorem tS_107 : tSome Tryz.prog 107 = true := by kernel_rfl
theorem tA_107 : tAgg Tryz.prog 107 = false := by kernel_rfl
theorem tZ_107 : tSz Tryz.prog 107 = some 1 := by kernel_rfl
theorem tFn_107 : tIsFn Tryz.prog 107 = true := by kernel_rfl
theorem tS_119 : tSome Tryz.prog 119 = true := by kernel_rfl
theorem tA_119 : tAgg Tryz.prog 119 = true := by kernel_rfl
theorem tZ_119 : tSz Tryz.prog 119 = some 0 := by kernel_rfl
theorem tSt_119 : tIsSt Tryz.prog 119 = true := by kernel_rfl
theorem tCo_119 : tConc Tryz.prog 119 = true := by kernel_rfl
theorem tS_120 : tSome Tryz.prog 120 = true := by kernel_rfl
theorem tA_120 : tAgg Tryz.prog 120 = false := by kernel_rfl
theorem tZ_120 : tSz Tryz.prog 120 = some 1 := by kernel_rfl
theorem tFn_120 : tIsFn Tryz.prog 120 = true := by kernel_rfl
theorem tS_138 : tSome Tryz.prog 138 = true := by kernel_rfl
theorem tA_138 : tAgg Tryz.prog 138 = true := by kernel_rfl
theorem tZ_138 : tSz Tryz.prog 138 = some 3 := by kernel_rfl
theorem tF_138_0 : tFld Tryz.prog 138 0 = some (0, 1) := by kernel_rfl
theorem tP_138_0 : tPlc Tryz.prog 138 0 = some (0, 1) := by kernel_rfl
theorem tFA_138_0 : tFldA Tryz.prog 138 0 = false := by kernel_rfl
theorem tFS_138_0 : tFldS Tryz.prog 138 0 = true := by kernel_rfl
theorem tF_138_1 : tFld Tryz.prog 138 1 = some (1, 1) := by kernel_rfl
theorem tP_138_1 : tPlc Tryz.prog 138 1 = some (1, 1) := by kernel_rfl
theorem tFA_138_1 : tFldA Tryz.prog 138 1 = false := by kernel_rfl
theorem tFS_138_1 : tFldS Tryz.prog 138 1 = true := by kernel_rfl
theorem tF_138_2 : tFld Tryz.prog 138 2 = some (2, 1) := by kernel_rfl
theorem tP_138_2 : tPlc Tryz.prog 138 2 = some (2, 1) := by kernel_rfl
theorem tFA_138_2 : tFldA Tryz.prog 138 2 = false := by kernel_rfl
theorem tFS_138_2 : tFldS Tryz.prog 138 2 = true := by kernel_rfl
theorem tSt_138 : tIsSt Tryz.prog 138 = true := by kernel_rfl
theorem tS_151 : tSome Tryz.prog 151 = true := by kernel_rfl
theorem tA_151 : tAgg Tryz.prog 151 = true := by kernel_rfl
theorem tZ_151 : tSz Tryz.prog 151 = some 2 := by kernel_rfl
theorem tF_151_0 : tFld Tryz.prog 151 0 = some (0, 1) := by kernel_rfl
theorem tP_151_0 : tPlc Tryz.prog 151 0 = some (0, 1) := by kernel_rfl
theorem tFA_151_0 : tFldA Tryz.prog 151 0 = false := by kernel_rfl
theorem tFS_151_0 : tFldS Tryz.prog 151 0 = true := by kernel_rfl
theorem tF_151_1 : tFld Tryz.prog 151 1 = some (1, 1) := by kernel_rfl
theorem tP_151_1 : tPlc Tryz.prog 151 1 = some (1, 1) := by kernel_rfl
theorem tFA_151_1 : tFldA Tryz.prog 151 1 = false := by kernel_rfl
theorem tFS_151_1 : tFldS Tryz.prog 151 1 = true := by kernel_rfl
theorem tSt_151 : tIsSt Tryz.prog 151 = true := by kernel_rfl
theorem tS_157 : tSome Tryz.prog 157 = true := by kernel_rfl
theorem tA_157 : tAgg Tryz.prog 157 = true := by kernel_rfl
theorem tZ_157 : tSz Tryz.prog 157 = some 1 := by kernel_rfl
theorem tF_157_0 : tFld Tryz.prog 157 0 = some (0, 1) := by kernel_rfl
theorem tP_157_0 : tPlc Tryz.prog 157 0 = some (0, 1) := by kernel_rfl
theorem tFA_157_0 : tFldA Tryz.prog 157 0 = false := by kernel_rfl
theorem tFS_157_0 : tFldS Tryz.prog 157 0 = true := by kernel_rfl
theorem tSt_157 : tIsSt Tryz.prog 157 = true := by kernel_rfl
theorem tS_160 : tSome Tryz.prog 160 = true := by kernel_rfl
theorem tA_160 : tAgg Tryz.prog 160 = false := by kernel_rfl
theorem tZ_160 : tSz Tryz.prog 160 = some 1 := by kernel_rfl
theorem tE_160 : tElem Tryz.prog 160 = some 5 := by kernel_rfl
theorem tEl_160 : tEl Tryz.prog 160 = some (5, 80) := by kernel_rfl
theorem tSl_160 : tIsSl Tryz.prog 160 = true := by kernel_rfl
theorem tBy_160 : tIsBy Tryz.prog 160 = false := by kernel_rfl
theorem tS_162 : tSome Tryz.prog 162 = true := by kernel_rfl
theorem tA_162 : tAgg Tryz.prog 162 = true := by kernel_rfl
theorem tZ_162 : tSz Tryz.prog 162 = some 5 := by kernel_rfl
theorem tF_162_0 : tFld Tryz.prog 162 0 = some (0, 1) := by kernel_rfl
theorem tP_162_0 : tPlc Tryz.prog 162 0 = some (0, 1) := by kernel_rfl
theorem tFA_162_0 : tFldA Tryz.prog 162 0 = false := by kernel_rfl
theorem tFS_162_0 : tFldS Tryz.prog 162 0 = true := by kernel_rfl
theorem tF_162_1 : tFld Tryz.prog 162 1 = some (1, 1) := by kernel_rfl
theorem tP_162_1 : tPlc Tryz.prog 162 1 = some (1, 1) := by kernel_rfl
theorem tFA_162_1 : tFldA Tryz.prog 162 1 = false := by kernel_rfl
theorem tFS_162_1 : tFldS Tryz.prog 162 1 = true := by kernel_rfl
theorem tF_162_2 : tFld Tryz.prog 162 2 = some (2, 1) := by kernel_rfl
theorem tP_162_2 : tPlc Tryz.prog 162 2 = some (2, 1) := by kernel_rfl
theorem tFA_162_2 : tFldA Tryz.prog 162 2 = false := by kernel_rfl
theorem tFS_162_2 : tFldS Tryz.prog 162 2 = true := by kernel_rfl
theorem tF_162_3 : tFld Tryz.prog 162 3 = some (3, 1) := by kernel_rfl
theorem tP_162_3 : tPlc Tryz.prog 162 3 = some (3, 1) := by kernel_rfl
theorem tFA_162_3 : tFldA Tryz.prog 162 3 = false := by kernel_rfl
theorem tFS_162_3 : tFldS Tryz.prog 162 3 = true := by kernel_rfl
theorem tF_162_4 : tFld Tryz.prog 162 4 = some (4, 1) := by kernel_rfl
theorem tP_162_4 : tPlc Tryz.prog 162 4 = some (4, 1) := by kernel_rfl
theorem tFA_162_4 : tFldA Tryz.prog 162 4 = false := by kernel_rfl
theorem tFS_162_4 : tFldS Tryz.prog 162 4 = true := by kernel_rfl
theorem tSt_162 : tIsSt Tryz.prog 162 = true := by kernel_rfl
theorem tS_166 : tSome Tryz.prog 166 = true := by kernel_rfl
theorem tA_166 : tAgg Tryz.prog 166 = true := by kernel_rfl
theorem tZ_166 : tSz Tryz.prog 166 = some 3 := by kernel_rfl
theorem tF_166_0 : tFld Tryz.prog 166 0 = some (0, 1) := by kernel_rfl
theorem tP_166_0 : tPlc Tryz.prog 166 0 = some (0, 1) := by kernel_rfl
theorem tFA_166_0 : tFldA Tryz.prog 166 0 = false := by kernel_rfl
theorem tFS_166_0 : tFldS Tryz.prog 166 0 = true := by kernel_rfl
theorem tF_166_1 : tFld Tryz.prog 166 1 = some (1, 1) := by kernel_rfl
theorem tP_166_1 : tPlc Tryz.prog 166 1 = some (1, 1) := by kernel_rfl
theorem tFA_166_1 : tFldA Tryz.prog 166 1 = false := by kernel_rfl
theorem tFS_166_1 : tFldS Tryz.prog 166 1 = true := by kernel_rfl
theorem tF_166_2 : tFld Tryz.prog 166 2 = some (2, 1) := by kernel_rfl
theorem tP_166_2 : tPlc Tryz.prog 166 2 = some (2, 1) := by kernel_rfl
theorem tFA_166_2 : tFldA Tryz.prog 166 2 = false := by kernel_rfl
theorem tFS_166_2 : tFldS Tryz.prog 166 2 = true := by kernel_rfl
theorem tSt_166 : tIsSt Tryz.prog 166 = true := by kernel_rfl
theorem tS_170 : tSome Tryz.prog 170 = true := by kernel_rfl
theorem tA_170 : tAgg Tryz.prog 170 = false := by kernel_rfl
theorem tZ_170 : tSz Tryz.prog 170 = some 1 := by kernel_rfl
theorem tE_170 : tElem Tryz.prog 170 = some 1 := by kernel_rfl
theorem tEl_170 : tEl Tryz.prog 170 = some (1, 8) := by kernel_rfl
theorem tSl_170 : tIsSl Tryz.prog 170 = true := by kernel_rfl
theorem tBy_170 : tIsBy Tryz.prog 170 = false := by kernel_rfl
theorem tS_173 : tSome Tryz.prog 173 = true := by kernel_rfl
theorem tA_173 : tAgg Tryz.prog 173 = true := by kernel_rfl
theorem tZ_173 : tSz Tryz.prog 173 = some 2 := by kernel_rfl
theorem tF_173_0 : tFld Tryz.prog 173 0 = some (0, 1) := by kernel_rfl
theorem tP_173_0 : tPlc Tryz.prog 173 0 = some (0, 1) := by kernel_rfl
theorem tFA_173_0 : tFldA Tryz.prog 173 0 = false := by kernel_rfl
theorem tFS_173_0 : tFldS Tryz.prog 173 0 = true := by kernel_rfl
theorem tF_173_1 : tFld Tryz.prog 173 1 = some (1, 1) := by kernel_rfl
theorem tP_173_1 : tPlc Tryz.prog 173 1 = some (1, 1) := by kernel_rfl
theorem tFA_173_1 : tFldA Tryz.prog 173 1 = false := by kernel_rfl
theorem tFS_173_1 : tFldS Tryz.prog 173 1 = true := by kernel_rfl
theorem tSt_173 : tIsSt Tryz.prog 173 = true := by kernel_rfl
theorem tS_174 : tSome Tryz.prog 174 = true := by kernel_rfl
theorem tA_174 : tAgg Tryz.prog 174 = false := by kernel_rfl
theorem tZ_174 : tSz Tryz.prog 174 = some 1 := by kernel_rfl
theorem tI_174 : tInt Tryz.prog 174 = some .u64 := by kernel_rfl
theorem tS_190 : tSome Tryz.prog 190 = true := by kernel_rfl
theorem tA_190 : tAgg Tryz.prog 190 = false := by kernel_rfl
theorem tZ_190 : tSz Tryz.prog 190 = some 1 := by kernel_rfl
theorem tFn_190 : tIsFn Tryz.prog 190 = true := by kernel_rfl
theorem tS_198 : tSome Tryz.prog 198 = true := by kernel_rfl
theorem tA_198 : tAgg Tryz.prog 198 = true := by kernel_rfl
theorem tZ_198 : tSz Tryz.prog 198 = some 4 := by kernel_rfl
theorem tF_198_0 : tFld Tryz.prog 198 0 = some (0, 1) := by kernel_rfl
theorem tP_198_0 : tPlc Tryz.prog 198 0 = some (0, 1) := by kernel_rfl
theorem tFA_198_0 : tFldA Tryz.prog 198 0 = false := by kernel_rfl
theorem tFS_198_0 : tFldS Tryz.prog 198 0 = true := by kernel_rfl
theorem tF_198_1 : tFld Tryz.prog 198 1 = some (1, 1) := by kernel_rfl
theorem tP_198_1 : tPlc Tryz.prog 198 1 = some (1, 1) := by kernel_rfl
theorem tFA_198_1 : tFldA Tryz.prog 198 1 = false := by kernel_rfl
theorem tFS_198_1 : tFldS Tryz.prog 198 1 = true := by kernel_rfl
theorem tF_198_2 : tFld Tryz.prog 198 2 = some (2, 1) := by kernel_rfl
theorem tP_198_2 : tPlc Tryz.prog 198 2 = some (2, 1) := by kernel_rfl
theorem tFA_198_2 : tFldA Tryz.prog 198 2 = false := by kernel_rfl
theorem tFS_198_2 : tFldS Tryz.prog 198 2 = true := by kernel_rfl
theorem tF_198_3 : tFld Tryz.prog 198 3 = some (3, 1) := by kernel_rfl
theorem tP_198_3 : tPlc Tryz.prog 198 3 = some (3, 1) := by kernel_rfl
theorem tFA_198_3 : tFldA Tryz.prog 198 3 = false := by kernel_rfl
theorem tFS_198_3 : tFldS Tryz.prog 198 3 = true := by kernel_rfl
theorem tSt_198 : tIsSt Tryz.prog 198 = true := by kernel_rfl
theorem tS_200 : tSome Tryz.prog 200 = true := by kernel_rfl
theorem tA_200 : tAgg Tryz.prog 200 = true := by kernel_rfl
theorem tZ_200 : tSz Tryz.prog 200 = some 9 := by kernel_rfl
theorem tF_200_0 : tFld Tryz.prog 200 0 = some (0, 1) := by kernel_rfl
theorem tP_200_0 : tPlc Tryz.prog 200 0 = some (0, 1) := by kernel_rfl
theorem tFA_200_0 : tFldA Tryz.prog 200 0 = false := by kernel_rfl
theorem tFS_200_0 : tFldS Tryz.prog 200 0 = true := by kernel_rfl
theorem tF_200_1 : tFld Tryz.prog 200 1 = some (1, 1) := by kernel_rfl
theorem tP_200_1 : tPlc Tryz.prog 200 1 = some (1, 1) := by kernel_rfl
theorem tFA_200_1 : tFldA Tryz.prog 200 1 = true := by kernel_rfl
theorem tFS_200_1 : tFldS Tryz.prog 200 1 = true := by kernel_rfl
theorem tF_200_2 : tFld Tryz.prog 200 2 = some (2, 4) := by kernel_rfl
theorem tP_200_2 : tPlc Tryz.prog 200 2 = some (2, 4) := by kernel_rfl
theorem tFA_200_2 : tFldA Tryz.prog 200 2 = true := by kernel_rfl
theorem tFS_200_2 : tFldS Tryz.prog 200 2 = true := by kernel_rfl
theorem tF_200_3 : tFld Tryz.prog 200 3 = some (6, 1) := by kernel_rfl
theorem tP_200_3 : tPlc Tryz.prog 200 3 = some (6, 1) := by kernel_rfl
theorem tFA_200_3 : tFldA Tryz.prog 200 3 = false := by kernel_rfl
theorem tFS_200_3 : tFldS Tryz.prog 200 3 = true := by kernel_rfl
theorem tF_200_4 : tFld Tryz.prog 200 4 = some (7, 1) := by kernel_rfl
theorem tP_200_4 : tPlc Tryz.prog 200 4 = some (7, 1) := by kernel_rfl
theorem tFA_200_4 : tFldA Tryz.prog 200 4 = false := by kernel_rfl
theorem tFS_200_4 : tFldS Tryz.prog 200 4 = true := by kernel_rfl
theorem tF_200_5 : tFld Tryz.prog 200 5 = some (8, 1) := by kernel_rfl
theorem tP_200_5 : tPlc Tryz.prog 200 5 = some (8, 1) := by kernel_rfl
theorem tFA_200_5 : tFldA Tryz.prog 200 5 = false := by kernel_rfl
theorem tFS_200_5 : tFldS Tryz.prog 200 5 = true := by kernel_rfl
theorem tSt_200 : tIsSt Tryz.prog 200 = true := by kernel_rfl
theorem tS_204 : tSome Tryz.prog 204 = true := by kernel_rfl
theorem tA_204 : tAgg Tryz.prog 204 = false := by kernel_rfl
theorem tZ_204 : tSz Tryz.prog 204 = some 1 := by kernel_rfl
theorem tI_204 : tInt Tryz.prog 204 = some .u64 := by kernel_rfl
theorem tS_208 : tSome Tryz.prog 208 = true := by kernel_rfl
theorem tA_208 : tAgg Tryz.prog 208 = true := by kernel_rfl
theorem tZ_208 : tSz Tryz.prog 208 = some 1 := by kernel_rfl
theorem tF_208_0 : tFld Tryz.prog 208 0 = some (0, 1) := by kernel_rfl
theorem tP_208_0 : tPlc Tryz.prog 208 0 = some (0, 1) := by kernel_rfl
theorem tFA_208_0 : tFldA Tryz.prog 208 0 = false := by kernel_rfl
theorem tFS_208_0 : tFldS Tryz.prog 208 0 = true := by kernel_rfl
theorem tSt_208 : tIsSt Tryz.prog 208 = true := by kernel_rfl
theorem tCo_208 : tConc Tryz.prog 208 = true := by kernel_rfl
theorem tS_211 : tSome Tryz.prog 211 = true := by kernel_rfl
theorem tA_211 : tAgg Tryz.prog 211 = true := by kernel_rfl
theorem tZ_211 : tSz Tryz.prog 211 = some 5 := by kernel_rfl
theorem tF_211_0 : tFld Tryz.prog 211 0 = some (0, 1) := by kernel_rfl
theorem tP_211_0 : tPlc Tryz.prog 211 0 = some (0, 1) := by kernel_rfl
theorem tFA_211_0 : tFldA Tryz.prog 211 0 = false := by kernel_rfl
theorem tFS_211_0 : tFldS Tryz.prog 211 0 = true := by kernel_rfl
theorem tF_211_1 : tFld Tryz.prog 211 1 = some (1, 1) := by kernel_rfl
theorem tP_211_1 : tPlc Tryz.prog 211 1 = some (1, 1) := by kernel_rfl
theorem tFA_211_1 : tFldA Tryz.prog 211 1 = false := by kernel_rfl
theorem tFS_211_1 : tFldS Tryz.prog 211 1 = true := by kernel_rfl
theorem tF_211_2 : tFld Tryz.prog 211 2 = some (2, 1) := by kernel_rfl
theorem tP_211_2 : tPlc Tryz.prog 211 2 = some (2, 1) := by kernel_rfl
theorem tFA_211_2 : tFldA Tryz.prog 211 2 = false := by kernel_rfl
theorem tFS_211_2 : tFldS Tryz.prog 211 2 = true := by kernel_rfl
theorem tF_211_3 : tFld Tryz.prog 211 3 = some (3, 1) := by kernel_rfl
theorem tP_211_3 : tPlc Tryz.prog 211 3 = some (3, 1) := by kernel_rfl
theorem tFA_211_3 : tFldA Tryz.prog 211 3 = false := by kernel_rfl
theorem tFS_211_3 : tFldS Tryz.prog 211 3 = true := by kernel_rfl
theorem tF_211_4 : tFld Tryz.prog 211 4 = some (4, 1) := by kernel_rfl
theorem tP_211_4 : tPlc Tryz.prog 211 4 = some (4, 1) := by kernel_rfl
theorem tFA_211_4 : tFldA Tryz.prog 211 4 = false := by kernel_rfl
theorem tFS_211_4 : tFldS Tryz.prog 211 4 = true := by kernel_rfl
theorem tSt_211 : tIsSt Tryz.prog 211 = true := by kernel_rfl
theorem tS_212 : tSome Tryz.prog 212 = true := by kernel_rfl
theorem tA_212 : tAgg Tryz.prog 212 = false := by kernel_rfl
theorem tZ_212 : tSz Tryz.prog 212 = some 1 := by kernel_rfl
theorem tE_212 : tElem Tryz.prog 212 = some 5 := by kernel_rfl
theorem tEl_212 : tEl Tryz.prog 212 = some (5, 64) := by kernel_rfl
theorem tSl_212 : tIsSl Tryz.prog 212 = true := by kernel_rfl
theorem tBy_212 : tIsBy Tryz.prog 212 = false := by kernel_rfl
theorem tS_214 : tSome Tryz.prog 214 = true := by kernel_rfl
theorem tA_214 : tAgg Tryz.prog 214 = true := by kernel_rfl
theorem tZ_214 : tSz Tryz.prog 214 = some 10 := by kernel_rfl
theorem tF_214_0 : tFld Tryz.prog 214 0 = some (0, 1) := by kernel_rfl
theorem tP_214_0 : tPlc Tryz.prog 214 0 = some (0, 1) := by kernel_rfl
theorem tFA_214_0 : tFldA Tryz.prog 214 0 = true := by kernel_rfl
theorem tFS_214_0 : tFldS Tryz.prog 214 0 = true := by kernel_rfl
theorem tF_214_1 : tFld Tryz.prog 214 1 = some (1, 1) := by kernel_rfl
theorem tP_214_1 : tPlc Tryz.prog 214 1 = some (1, 1) := by kernel_rfl
theorem tFA_214_1 : tFldA Tryz.prog 214 1 = false := by kernel_rfl
theorem tFS_214_1 : tFldS Tryz.prog 214 1 = true := by kernel_rfl
theorem tF_214_2 : tFld Tryz.prog 214 2 = some (2, 1) := by kernel_rfl
theorem tP_214_2 : tPlc Tryz.prog 214 2 = some (2, 1) := by kernel_rfl
theorem tFA_214_2 : tFldA Tryz.prog 214 2 = false := by kernel_rfl
theorem tFS_214_2 : tFldS Tryz.prog 214 2 = true := by kernel_rfl
theorem tF_214_3 : tFld Tryz.prog 214 3 = some (3, 5) := by kernel_rfl
theorem tP_214_3 : tPlc Tryz.prog 214 3 = some (3, 5) := by kernel_rfl
theorem tFA_214_3 : tFldA Tryz.prog 214 3 = true := by kernel_rfl
theorem tFS_214_3 : tFldS Tryz.prog 214 3 = true := by kernel_rfl
theorem tF_214_4 : tFld Tryz.prog 214 4 = some (8, 1) := by kernel_rfl
theorem tP_214_4 : tPlc Tryz.prog 214 4 = some (8, 1) := by kernel_rfl
theorem tFA_214_4 : tFldA Tryz.prog 214 4 = false := by kernel_rfl
theorem tFS_214_4 : tFldS Tryz.prog 214 4 = true := by kernel_rfl
theorem tF_214_5 : tFld Tryz.prog 214 5 = some (9, 1) := by kernel_rfl
theorem tP_214_5 : tPlc Tryz.prog 214 5 = some (9, 1) := by kernel_rfl
theorem tFA_214_5 : tFldA Tryz.prog 214 5 = false := by kernel_rfl
theorem tFS_214_5 : tFldS Tryz.prog 214 5 = true := by kernel_rfl
theorem tSt_214 : tIsSt Tryz.prog 214 = true := by kernel_rfl
theorem tS_217 : tSome Tryz.prog 217 = true := by kernel_rfl
theorem tA_217 : tAgg Tryz.prog 217 = false := by kernel_rfl
theorem tZ_217 : tSz Tryz.prog 217 = some 1 := by kernel_rfl
theorem tI_217 : tInt Tryz.prog 217 = some .u32 := by kernel_rfl
theorem tS_228 : tSome Tryz.prog 228 = true := by kernel_rfl
theorem tA_228 : tAgg Tryz.prog 228 = true := by kernel_rfl
theorem tZ_228 : tSz Tryz.prog 228 = some 9 := by kernel_rfl
theorem tAy_228 : tAry Tryz.prog 228 = some (9, 1) := by kernel_rfl
theorem tAr_228 : tArr Tryz.prog 228 = some (9, 1, false) := by kernel_rfl
theorem tP_228_0 : tPlc Tryz.prog 228 0 = some (0, 1) := by kernel_rfl
theorem tP_228_1 : tPlc Tryz.prog 228 1 = some (1, 1) := by kernel_rfl
theorem tP_228_2 : tPlc Tryz.prog 228 2 = some (2, 1) := by kernel_rfl
theorem tP_228_3 : tPlc Tryz.prog 228 3 = some (3, 1) := by kernel_rfl
theorem tP_228_4 : tPlc Tryz.prog 228 4 = some (4, 1) := by kernel_rfl
theorem tP_228_5 : tPlc Tryz.prog 228 5 = some (5, 1) := by kernel_rfl
theorem tP_228_6 : tPlc Tryz.prog 228 6 = some (6, 1) := by kernel_rfl
theorem tP_228_7 : tPlc Tryz.prog 228 7 = some (7, 1) := by kernel_rfl
theorem tP_228_8 : tPlc Tryz.prog 228 8 = some (8, 1) := by kernel_rfl
theorem tSt_228 : tIsSt Tryz.prog 228 = true := by kernel_rfl
theorem tArS_228 : qIndex.tArrS Tryz.prog 228 = true := by kernel_rfl
theorem tS_232 : tSome Tryz.prog 232 = true := by kernel_rfl
theorem tA_232 : tAgg Tryz.prog 232 = true := by kernel_rfl
theorem tZ_232 : tSz Tryz.prog 232 = some 16 := by kernel_rfl
theorem tAy_232 : tAry Tryz.prog 232 = some (16, 1) := by kernel_rfl
theorem tAr_232 : tArr Tryz.prog 232 = some (16, 1, false) := by kernel_rfl
theorem tP_232_0 : tPlc Tryz.prog 232 0 = some (0, 1) := by kernel_rfl
theorem tP_232_1 : tPlc Tryz.prog 232 1 = some (1, 1) := by kernel_rfl
theorem tP_232_2 : tPlc Tryz.prog 232 2 = some (2, 1) := by kernel_rfl
theorem tP_232_3 : tPlc Tryz.prog 232 3 = some (3, 1) := by kernel_rfl
theorem tP_232_4 : tPlc Tryz.prog 232 4 = some (4, 1) := by kernel_rfl
theorem tP_232_5 : tPlc Tryz.prog 232 5 = some (5, 1) := by kernel_rfl
theorem tP_232_6 : tPlc Tryz.prog 232 6 = some (6, 1) := by kernel_rfl
theorem tP_232_7 : tPlc Tryz.prog 232 7 = some (7, 1) := by kernel_rfl
theorem tP_232_8 : tPlc Tryz.prog 232 8 = some (8, 1) := by kernel_rfl
theorem tP_232_9 : tPlc Tryz.prog 232 9 = some (9, 1) := by kernel_rfl
theorem tP_232_10 : tPlc Tryz.prog 232 10 = some (10, 1) := by kernel_rfl
theorem tP_232_11 : tPlc Tryz.prog 232 11 = some (11, 1) := by kernel_rfl
theorem tP_232_12 : tPlc Tryz.prog 232 12 = some (12, 1) := by kernel_rfl
theorem tP_232_13 : tPlc Tryz.prog 232 13 = some (13, 1) := by kernel_rfl
theorem tP_232_14 : tPlc Tryz.prog 232 14 = some (14, 1) := by kernel_rfl
theorem tP_232_15 : tPlc Tryz.prog 232 15 = some (15, 1) := by kernel_rfl
theorem tSt_232 : tIsSt Tryz.prog 232 = true := by kernel_rfl
theorem tArS_232 : qIndex.tArrS Tryz.prog 232 = true := by kernel_rfl
theorem tS_241 : tSome Tryz.prog 241 = true := by kernel_rfl
theorem tA_241 : tAgg Tryz.prog 241 = false := by kernel_rfl
theorem tZ_241 : tSz Tryz.prog 241 = some 1 := by kernel_rfl
theorem tE_241 : tElem Tryz.prog 241 = some 1 := by kernel_rfl
theorem tEl_241 : tEl Tryz.prog 241 = some (1, 16) := by kernel_rfl
theorem tSl_241 : tIsSl Tryz.prog 241 = true := by kernel_rfl
theorem tBy_241 : tIsBy Tryz.prog 241 = false := by kernel_rfl
def zs : TypeId → AV
  | 3 => .int .i64 0
  | 4 => .bool false
  | 5 => .int .u8 0
  | 9 => .str []
  | 24 => .agg [.nilsl]
  | 25 => .nilsl
  | 30 => .agg [.nilsl, .nilsl, .nilsl, .nilsl, .int .i64 0, .int .i64 0, .int .i64 0, .bool false, .str [], .nilsl]
  | 32 => .agg [.int .i64 0, .int .i64 0, .int .i64 0, .nilsl, .nilsl, .nilsl, .int .i64 0, .agg [.nilsl, .nilsl, .nilsl, .nilsl, .int .i64 0, .int .i64 0, .int .i64 0, .bool false, .str [], .nilsl]]
  | 49 => .agg [.nilsl, .nilsl]
  | 60 => .agg [.int .i64 0, .int .i64 0, .nilsl, .nilsl]
  | 62 => .agg [.int .i64 0, .int .i64 0, .nilsl, .int .i64 0, .nilsl, .int .i64 0]
  | 67 => .agg [.nilsl, .nilsl, .bool false]
  | 69 => .agg [.int .i64 0, .bool false, .int .i64 0, .agg [.nilsl, .nilsl, .bool false]]
  | 85 => .agg [.nilsl, .nilsl]
  | 87 => .agg [.int .i64 0, .nilsl, .int .i64 0, .nilsl]
  | 99 => .agg [.str [], .int .i64 0, .int .i64 0]
  | 102 => .agg [.bool false, .bool false, .bool false, .int .i64 0, .bool false]
  | 103 => .agg [.agg [.bool false, .bool false, .bool false, .int .i64 0, .bool false], .agg [.bool false, .bool false, .bool false, .int .i64 0, .bool false], .agg [.bool false, .bool false, .bool false, .int .i64 0, .bool false], .agg [.bool false, .bool false, .bool false, .int .i64 0, .bool false], .agg [.bool false, .bool false, .bool false, .int .i64 0, .bool false], .agg [.bool false, .bool false, .bool false, .int .i64 0, .bool false], .agg [.bool false, .bool false, .bool false, .int .i64 0, .bool false], .agg [.bool false, .bool false, .bool false, .int .i64 0, .bool false]]
  | 119 => .agg []
  | 138 => .agg [.nilsl, .int .i64 0, .bool false]
  | 151 => .agg [.int .i64 0, .nilsl]
  | 157 => .agg [.nilsl]
  | 162 => .agg [.str [], .nilsl, .str [], .str [], .int .i64 0]
  | 166 => .agg [.bool false, .int .i64 0, .nilsl]
  | 173 => .agg [.nilsl, .int .i64 0]
  | 190 => .nilf
  | 198 => .agg [.int .u8 0, .str [], .int .i64 0, .int .i64 0]
  | 200 => .agg [.str [], .agg [.nilsl], .agg [.int .u8 0, .str [], .int .i64 0, .int .i64 0], .int .i64 0, .int .i64 0, .int .i64 0]
  | 208 => .agg [.int .i64 0]
  | 211 => .agg [.int .i64 0, .int .i64 0, .str [], .int .i64 0, .nilsl]
  | 214 => .agg [.agg [.nilsl], .str [], .int .i64 0, .agg [.int .i64 0, .int .i64 0, .str [], .int .i64 0, .nilsl], .nilsl, .int .i64 0]
  | 228 => .agg [.str [], .str [], .str [], .str [], .str [], .str [], .str [], .str [], .str []]
  | 232 => .agg [.int .u32 0, .int .u32 0, .int .u32 0, .int .u32 0, .int .u32 0, .int .u32 0, .int .u32 0, .int .u32 0, .int .u32 0, .int .u32 0, .int .u32 0, .int .u32 0, .int .u32 0, .int .u32 0, .int .u32 0, .int .u32 0]
  | _ => .junk
def zo (t : TypeId) : AV := if t = 4294967295 then .bool true else zs t
theorem zs_m : zs 4294967295 = .junk := rfl
theorem zo_m : zo 4294967295 = .bool true := rfl
theorem zs_3 : zs 3 = .int .i64 0 := rfl
theorem zo_3 : zo 3 = .int .i64 0 := rfl
theorem zi_3 : ZeroIs Tryz.prog 3 (.int .i64 0) := zeroIs_of rfl (.int .i64 0) (by kernel_rfl) rfl
theorem zs_4 : zs 4 = .bool false := rfl
theorem zo_4 : zo 4 = .bool false := rfl
theorem zi_4 : ZeroIs Tryz.prog 4 (.bool false) := zeroIs_of rfl (.bool false) (by kernel_rfl) rfl
theorem zs_5 : zs 5 = .int .u8 0 := rfl
theorem zo_5 : zo 5 = .int .u8 0 := rfl
theorem zi_5 : ZeroIs Tryz.prog 5 (.int .u8 0) := zeroIs_of rfl (.int .u8 0) (by kernel_rfl) rfl
theorem zs_9 : zs 9 = .str [] := rfl
theorem zo_9 : zo 9 = .str [] := rfl
theorem zi_9 : ZeroIs Tryz.prog 9 (.str []) := zeroIs_of rfl (.string ⟨#[]⟩) (by kernel_rfl) rfl
theorem zs_24 : zs 24 = .agg [.nilsl] := rfl
theorem zo_24 : zo 24 = .agg [.nilsl] := rfl
theorem zi_24 : ZeroIs Tryz.prog 24 (.agg [.nilsl]) := zeroIs_of rfl (.agg #[.slice none 0 0]) (by kernel_rfl) rfl
theorem zs_25 : zs 25 = .nilsl := rfl
theorem zo_25 : zo 25 = .nilsl := rfl
theorem zi_25 : ZeroIs Tryz.prog 25 (.nilsl) := zeroIs_of rfl (.slice none 0 0) (by kernel_rfl) rfl
theorem zs_30 : zs 30 = .agg [.nilsl, .nilsl, .nilsl, .nilsl, .int .i64 0, .int .i64 0, .int .i64 0, .bool false, .str [], .nilsl] := rfl
theorem zo_30 : zo 30 = .agg [.nilsl, .nilsl, .nilsl, .nilsl, .int .i64 0, .int .i64 0, .int .i64 0, .bool false, .str [], .nilsl] := rfl
theorem zi_30 : ZeroIs Tryz.prog 30 (.agg [.nilsl, .nilsl, .nilsl, .nilsl, .int .i64 0, .int .i64 0, .int .i64 0, .bool false, .str [], .nilsl]) := zeroIs_of rfl (.agg #[.slice none 0 0, .slice none 0 0, .slice none 0 0, .slice none 0 0, .int .i64 0, .int .i64 0, .int .i64 0, .bool false, .string ⟨#[]⟩, .slice none 0 0]) (by kernel_rfl) rfl
theorem zs_32 : zs 32 = .agg [.int .i64 0, .int .i64 0, .int .i64 0, .nilsl, .nilsl, .nilsl, .int .i64 0, .agg [.nilsl, .nilsl, .nilsl, .nilsl, .int .i64 0, .int .i64 0, .int .i64 0, .bool false, .str [], .nilsl]] := rfl
theorem zo_32 : zo 32 = .agg [.int .i64 0, .int .i64 0, .int .i64 0, .nilsl, .nilsl, .nilsl, .int .i64 0, .agg [.nilsl, .nilsl, .nilsl, .nilsl, .int .i64 0, .int .i64 0, .int .i64 0, .bool false, .str [], .nilsl]] := rfl
theorem zi_32 : ZeroIs Tryz.prog 32 (.agg [.int .i64 0, .int .i64 0, .int .i64 0, .nilsl, .nilsl, .nilsl, .int .i64 0, .agg [.nilsl, .nilsl, .nilsl, .nilsl, .int .i64 0, .int .i64 0, .int .i64 0, .bool false, .str [], .nilsl]]) := zeroIs_of rfl (.agg #[.int .i64 0, .int .i64 0, .int .i64 0, .slice none 0 0, .slice none 0 0, .slice none 0 0, .int .i64 0, .slice none 0 0, .slice none 0 0, .slice none 0 0, .slice none 0 0, .int .i64 0, .int .i64 0, .int .i64 0, .bool false, .string ⟨#[]⟩, .slice none 0 0]) (by kernel_rfl) rfl
theorem zs_49 : zs 49 = .agg [.nilsl, .nilsl] := rfl
theorem zo_49 : zo 49 = .agg [.nilsl, .nilsl] := rfl
theorem zi_49 : ZeroIs Tryz.prog 49 (.agg [.nilsl, .nilsl]) := zeroIs_of rfl (.agg #[.slice none 0 0, .slice none 0 0]) (by kernel_rfl) rfl
theorem zs_60 : zs 60 = .agg [.int .i64 0, .int .i64 0, .nilsl, .nilsl] := rfl
theorem zo_60 : zo 60 = .agg [.int .i64 0, .int .i64 0, .nilsl, .nilsl] := rfl
theorem zi_60 : ZeroIs Tryz.prog 60 (.agg [.int .i64 0, .int .i64 0, .nilsl, .nilsl]) := zeroIs_of rfl (.agg #[.int .i64 0, .int .i64 0, .slice none 0 0, .slice none 0 0]) (by kernel_rfl) rfl
theorem zs_62 : zs 62 = .agg [.int .i64 0, .int .i64 0, .nilsl, .int .i64 0, .nilsl, .int .i64 0] := rfl
theorem zo_62 : zo 62 = .agg [.int .i64 0, .int .i64 0, .nilsl, .int .i64 0, .nilsl, .int .i64 0] := rfl
theorem zi_62 : ZeroIs Tryz.prog 62 (.agg [.int .i64 0, .int .i64 0, .nilsl, .int .i64 0, .nilsl, .int .i64 0]) := zeroIs_of rfl (.agg #[.int .i64 0, .int .i64 0, .slice none 0 0, .int .i64 0, .slice none 0 0, .int .i64 0]) (by kernel_rfl) rfl
theorem zs_67 : zs 67 = .agg [.nilsl, .nilsl, .bool false] := rfl
theorem zo_67 : zo 67 = .agg [.nilsl, .nilsl, .bool false] := rfl
theorem zi_67 : ZeroIs Tryz.prog 67 (.agg [.nilsl, .nilsl, .bool false]) := zeroIs_of rfl (.agg #[.slice none 0 0, .slice none 0 0, .bool false]) (by kernel_rfl) rfl
theorem zs_69 : zs 69 = .agg [.int .i64 0, .bool false, .int .i64 0, .agg [.nilsl, .nilsl, .bool false]] := rfl
theorem zo_69 : zo 69 = .agg [.int .i64 0, .bool false, .int .i64 0, .agg [.nilsl, .nilsl, .bool false]] := rfl
theorem zi_69 : ZeroIs Tryz.prog 69 (.agg [.int .i64 0, .bool false, .int .i64 0, .agg [.nilsl, .nilsl, .bool false]]) := zeroIs_of rfl (.agg #[.int .i64 0, .bool false, .int .i64 0, .slice none 0 0, .slice none 0 0, .bool false]) (by kernel_rfl) rfl
theorem zs_85 : zs 85 = .agg [.nilsl, .nilsl] := rfl
theorem zo_85 : zo 85 = .agg [.nilsl, .nilsl] := rfl
theorem zi_85 : ZeroIs Tryz.prog 85 (.agg [.nilsl, .nilsl]) := zeroIs_of rfl (.agg #[.slice none 0 0, .slice none 0 0]) (by kernel_rfl) rfl
theorem zs_87 : zs 87 = .agg [.int .i64 0, .nilsl, .int .i64 0, .nilsl] := rfl
theorem zo_87 : zo 87 = .agg [.int .i64 0, .nilsl, .int .i64 0, .nilsl] := rfl
theorem zi_87 : ZeroIs Tryz.prog 87 (.agg [.int .i64 0, .nilsl, .int .i64 0, .nilsl]) := zeroIs_of rfl (.agg #[.int .i64 0, .slice none 0 0, .int .i64 0, .slice none 0 0]) (by kernel_rfl) rfl
theorem zs_99 : zs 99 = .agg [.str [], .int .i64 0, .int .i64 0] := rfl
theorem zo_99 : zo 99 = .agg [.str [], .int .i64 0, .int .i64 0] := rfl
theorem zi_99 : ZeroIs Tryz.prog 99 (.agg [.str [], .int .i64 0, .int .i64 0]) := zeroIs_of rfl (.agg #[.string ⟨#[]⟩, .int .i64 0, .int .i64 0]) (by kernel_rfl) rfl
theorem zs_102 : zs 102 = .agg [.bool false, .bool false, .bool false, .int .i64 0, .bool false] := rfl
theorem zo_102 : zo 102 = .agg [.bool false, .bool false, .bool false, .int .i64 0, .bool false] := rfl
theorem zi_102 : ZeroIs Tryz.prog 102 (.agg [.bool false, .bool false, .bool false, .int .i64 0, .bool false]) := zeroIs_of rfl (.agg #[.bool false, .bool false, .bool false, .int .i64 0, .bool false]) (by kernel_rfl) rfl
theorem zs_103 : zs 103 = .agg [.agg [.bool false, .bool false, .bool false, .int .i64 0, .bool false], .agg [.bool false, .bool false, .bool false, .int .i64 0, .bool false], .agg [.bool false, .bool false, .bool false, .int .i64 0, .bool false], .agg [.bool false, .bool false, .bool false, .int .i64 0, .bool false], .agg [.bool false, .bool false, .bool false, .int .i64 0, .bool false], .agg [.bool false, .bool false, .bool false, .int .i64 0, .bool false], .agg [.bool false, .bool false, .bool false, .int .i64 0, .bool false], .agg [.bool false, .bool false, .bool false, .int .i64 0, .bool false]] := rfl
theorem zo_103 : zo 103 = .agg [.agg [.bool false, .bool false, .bool false, .int .i64 0, .bool false], .agg [.bool false, .bool false, .bool false, .int .i64 0, .bool false], .agg [.bool false, .bool false, .bool false, .int .i64 0, .bool false], .agg [.bool false, .bool false, .bool false, .int .i64 0, .bool false], .agg [.bool false, .bool false, .bool false, .int .i64 0, .bool false], .agg [.bool false, .bool false, .bool false, .int .i64 0, .bool false], .agg [.bool false, .bool false, .bool false, .int .i64 0, .bool false], .agg [.bool false, .bool false, .bool false, .int .i64 0, .bool false]] := rfl
theorem zi_103 : ZeroIs Tryz.prog 103 (.agg [.agg [.bool false, .bool false, .bool false, .int .i64 0, .bool false], .agg [.bool false, .bool false, .bool false, .int .i64 0, .bool false], .agg [.bool false, .bool false, .bool false, .int .i64 0, .bool false], .agg [.bool false, .bool false, .bool false, .int .i64 0, .bool false], .agg [.bool false, .bool false, .bool false, .int .i64 0, .bool false], .agg [.bool false, .bool false, .bool false, .int .i64 0, .bool false], .agg [.bool false, .bool false, .bool false, .int .i64 0, .bool false], .agg [.bool false, .bool false, .bool false, .int .i64 0, .bool false]]) := zeroIs_of rfl (.agg #[.bool false, .bool false, .bool false, .int .i64 0, .bool false, .bool false, .bool false, .bool false, .int .i64 0, .bool false, .bool false, .bool false, .bool false, .int .i64 0, .bool false, .bool false, .bool false, .bool false, .int .i64 0, .bool false, .bool false, .bool false, .bool false, .int .i64 0, .bool false, .bool false, .bool false, .bool false, .int .i64 0, .bool false, .bool false, .bool false, .bool false, .int .i64 0, .bool false, .bool false, .bool false, .bool false, .int .i64 0, .bool false]) (by kernel_rfl) rfl
theorem zs_119 : zs 119 = .agg [] := rfl
theorem zo_119 : zo 119 = .agg [] := rfl
theorem zi_119 : ZeroIs Tryz.prog 119 (.agg []) := zeroIs_of rfl (.agg #[]) (by kernel_rfl) rfl
theorem zs_138 : zs 138 = .agg [.nilsl, .int .i64 0, .bool false] := rfl
theorem zo_138 : zo 138 = .agg [.nilsl, .int .i64 0, .bool false] := rfl
theorem zi_138 : ZeroIs Tryz.prog 138 (.agg [.nilsl, .int .i64 0, .bool false]) := zeroIs_of rfl (.agg #[.slice none 0 0, .int .i64 0, .bool false]) (by kernel_rfl) rfl
theorem zs_151 : zs 151 = .agg [.int .i64 0, .nilsl] := rfl
theorem zo_151 : zo 151 = .agg [.int .i64 0, .nilsl] := rfl
theorem zi_151 : ZeroIs Tryz.prog 151 (.agg [.int .i64 0, .nilsl]) := zeroIs_of rfl (.agg #[.int .i64 0, .slice none 0 0]) (by kernel_rfl) rfl
theorem zs_157 : zs 157 = .agg [.nilsl] := rfl
theorem zo_157 : zo 157 = .agg [.nilsl] := rfl
theorem zi_157 : ZeroIs Tryz.prog 157 (.agg [.nilsl]) := zeroIs_of rfl (.agg #[.slice none 0 0]) (by kernel_rfl) rfl
theorem zs_162 : zs 162 = .agg [.str [], .nilsl, .str [], .str [], .int .i64 0] := rfl
theorem zo_162 : zo 162 = .agg [.str [], .nilsl, .str [], .str [], .int .i64 0] := rfl
theorem zi_162 : ZeroIs Tryz.prog 162 (.agg [.str [], .nilsl, .str [], .str [], .int .i64 0]) := zeroIs_of rfl (.agg #[.string ⟨#[]⟩, .slice none 0 0, .string ⟨#[]⟩, .string ⟨#[]⟩, .int .i64 0]) (by kernel_rfl) rfl
theorem zs_166 : zs 166 = .agg [.bool false, .int .i64 0, .nilsl] := rfl
theorem zo_166 : zo 166 = .agg [.bool false, .int .i64 0, .nilsl] := rfl
theorem zi_166 : ZeroIs Tryz.prog 166 (.agg [.bool false, .int .i64 0, .nilsl]) := zeroIs_of rfl (.agg #[.bool false, .int .i64 0, .slice none 0 0]) (by kernel_rfl) rfl
theorem zs_173 : zs 173 = .agg [.nilsl, .int .i64 0] := rfl
theorem zo_173 : zo 173 = .agg [.nilsl, .int .i64 0] := rfl
theorem zi_173 : ZeroIs Tryz.prog 173 (.agg [.nilsl, .int .i64 0]) := zeroIs_of rfl (.agg #[.slice none 0 0, .int .i64 0]) (by kernel_rfl) rfl
theorem zs_190 : zs 190 = .nilf := rfl
theorem zo_190 : zo 190 = .nilf := rfl
theorem zi_190 : ZeroIs Tryz.prog 190 (.nilf) := zeroIs_of rfl (.nilFunc) (by kernel_rfl) rfl
theorem zs_198 : zs 198 = .agg [.int .u8 0, .str [], .int .i64 0, .int .i64 0] := rfl
theorem zo_198 : zo 198 = .agg [.int .u8 0, .str [], .int .i64 0, .int .i64 0] := rfl
theorem zi_198 : ZeroIs Tryz.prog 198 (.agg [.int .u8 0, .str [], .int .i64 0, .int .i64 0]) := zeroIs_of rfl (.agg #[.int .u8 0, .string ⟨#[]⟩, .int .i64 0, .int .i64 0]) (by kernel_rfl) rfl
theorem zs_200 : zs 200 = .agg [.str [], .agg [.nilsl], .agg [.int .u8 0, .str [], .int .i64 0, .int .i64 0], .int .i64 0, .int .i64 0, .int .i64 0] := rfl
theorem zo_200 : zo 200 = .agg [.str [], .agg [.nilsl], .agg [.int .u8 0, .str [], .int .i64 0, .int .i64 0], .int .i64 0, .int .i64 0, .int .i64 0] := rfl
theorem zi_200 : ZeroIs Tryz.prog 200 (.agg [.str [], .agg [.nilsl], .agg [.int .u8 0, .str [], .int .i64 0, .int .i64 0], .int .i64 0, .int .i64 0, .int .i64 0]) := zeroIs_of rfl (.agg #[.string ⟨#[]⟩, .slice none 0 0, .int .u8 0, .string ⟨#[]⟩, .int .i64 0, .int .i64 0, .int .i64 0, .int .i64 0, .int .i64 0]) (by kernel_rfl) rfl
theorem zs_208 : zs 208 = .agg [.int .i64 0] := rfl
theorem zo_208 : zo 208 = .agg [.int .i64 0] := rfl
theorem zi_208 : ZeroIs Tryz.prog 208 (.agg [.int .i64 0]) := zeroIs_of rfl (.agg #[.int .i64 0]) (by kernel_rfl) rfl
theorem zs_211 : zs 211 = .agg [.int .i64 0, .int .i64 0, .str [], .int .i64 0, .nilsl] := rfl
theorem zo_211 : zo 211 = .agg [.int .i64 0, .int .i64 0, .str [], .int .i64 0, .nilsl] := rfl
theorem zi_211 : ZeroIs Tryz.prog 211 (.agg [.int .i64 0, .int .i64 0, .str [], .int .i64 0, .nilsl]) := zeroIs_of rfl (.agg #[.int .i64 0, .int .i64 0, .string ⟨#[]⟩, .int .i64 0, .slice none 0 0]) (by kernel_rfl) rfl
theorem zs_214 : zs 214 = .agg [.agg [.nilsl], .str [], .int .i64 0, .agg [.int .i64 0, .int .i64 0, .str [], .int .i64 0, .nilsl], .nilsl, .int .i64 0] := rfl
theorem zo_214 : zo 214 = .agg [.agg [.nilsl], .str [], .int .i64 0, .agg [.int .i64 0, .int .i64 0, .str [], .int .i64 0, .nilsl], .nilsl, .int .i64 0] := rfl
theorem zi_214 : ZeroIs Tryz.prog 214 (.agg [.agg [.nilsl], .str [], .int .i64 0, .agg [.int .i64 0, .int .i64 0, .str [], .int .i64 0, .nilsl], .nilsl, .int .i64 0]) := zeroIs_of rfl (.agg #[.slice none 0 0, .string ⟨#[]⟩, .int .i64 0, .int .i64 0, .int .i64 0, .string ⟨#[]⟩, .int .i64 0, .slice none 0 0, .slice none 0 0, .int .i64 0]) (by kernel_rfl) rfl
theorem zs_228 : zs 228 = .agg [.str [], .str [], .str [], .str [], .str [], .str [], .str [], .str [], .str []] := rfl
theorem zo_228 : zo 228 = .agg [.str [], .str [], .str [], .str [], .str [], .str [], .str [], .str [], .str []] := rfl
theorem zi_228 : ZeroIs Tryz.prog 228 (.agg [.str [], .str [], .str [], .str [], .str [], .str [], .str [], .str [], .str []]) := zeroIs_of rfl (.agg #[.string ⟨#[]⟩, .string ⟨#[]⟩, .string ⟨#[]⟩, .string ⟨#[]⟩, .string ⟨#[]⟩, .string ⟨#[]⟩, .string ⟨#[]⟩, .string ⟨#[]⟩, .string ⟨#[]⟩]) (by kernel_rfl) rfl
theorem zs_232 : zs 232 = .agg [.int .u32 0, .int .u32 0, .int .u32 0, .int .u32 0, .int .u32 0, .int .u32 0, .int .u32 0, .int .u32 0, .int .u32 0, .int .u32 0, .int .u32 0, .int .u32 0, .int .u32 0, .int .u32 0, .int .u32 0, .int .u32 0] := rfl
theorem zo_232 : zo 232 = .agg [.int .u32 0, .int .u32 0, .int .u32 0, .int .u32 0, .int .u32 0, .int .u32 0, .int .u32 0, .int .u32 0, .int .u32 0, .int .u32 0, .int .u32 0, .int .u32 0, .int .u32 0, .int .u32 0, .int .u32 0, .int .u32 0] := rfl
theorem zi_232 : ZeroIs Tryz.prog 232 (.agg [.int .u32 0, .int .u32 0, .int .u32 0, .int .u32 0, .int .u32 0, .int .u32 0, .int .u32 0, .int .u32 0, .int .u32 0, .int .u32 0, .int .u32 0, .int .u32 0, .int .u32 0, .int .u32 0, .int .u32 0, .int .u32 0]) := zeroIs_of rfl (.agg #[.int .u32 0, .int .u32 0, .int .u32 0, .int .u32 0, .int .u32 0, .int .u32 0, .int .u32 0, .int .u32 0, .int .u32 0, .int .u32 0, .int .u32 0, .int .u32 0, .int .u32 0, .int .u32 0, .int .u32 0, .int .u32 0]) (by kernel_rfl) rfl
attribute [go_sem] tS_3 tA_3 tZ_3 tI_3 tS_4 tA_4 tZ_4 tBo_4 tS_5 tA_5 tZ_5 tI_5 tS_9 tA_9 tZ_9 tStr_9 tS_20 tA_20 tZ_20 tIf_20 tAny_20 tS_22 tA_22 tZ_22 tE_22 tEl_22 tSl_22 tBy_22 tS_24 tA_24 tZ_24 tF_24_0 tP_24_0 tFA_24_0 tFS_24_0 tSt_24 tS_25 tA_25 tZ_25 tE_25 tEl_25 tSl_25 tNS_25 tBy_25 tET_25 tS_26 tA_26 tZ_26 tE_26 tEl_26 tSl_26 tBy_26 tET_26 tS_27 tA_27 tZ_27 tE_27 tEl_27 tSl_27 tBy_27 tS_28 tA_28 tZ_28 tE_28 tEl_28 tSl_28 tBy_28 tS_30 tA_30 tZ_30 tF_30_0 tP_30_0 tFA_30_0 tFS_30_0 tF_30_1 tP_30_1 tFA_30_1 tFS_30_1 tF_30_2 tP_30_2 tFA_30_2 tFS_30_2 tF_30_3 tP_30_3 tFA_30_3 tFS_30_3 tF_30_4 tP_30_4 tFA_30_4 tFS_30_4 tF_30_5 tP_30_5 tFA_30_5 tFS_30_5 tF_30_6 tP_30_6 tFA_30_6 tFS_30_6 tF_30_7 tP_30_7 tFA_30_7 tFS_30_7 tF_30_8 tP_30_8 tFA_30_8 tFS_30_8 tF_30_9 tP_30_9 tFA_30_9 tFS_30_9 tSt_30 tS_32 tA_32 tZ_32 tF_32_0 tP_32_0 tFA_32_0 tFS_32_0 tF_32_1 tP_32_1 tFA_32_1 tFS_32_1 tF_32_2 tP_32_2 tFA_32_2 tFS_32_2 tF_32_3 tP_32_3 tFA_32_3 tFS_32_3 tF_32_4 tP_32_4 tFA_32_4 tFS_32_4 tF_32_5 tP_32_5 tFA_32_5 tFS_32_5 tF_32_6 tP_32_6 tFA_32_6 tFS_32_6 tF_32_7 tP_32_7 tFA_32_7 tFS_32_7 tSt_32 tS_36 tA_36 tZ_36 tI_36 tS_47 tA_47 tZ_47 tE_47 tEl_47 tSl_47 tBy_47 tS_49 tA_49 tZ_49 tF_49_0 tP_49_0 tFA_49_0 tFS_49_0 tF_49_1 tP_49_1 tFA_49_1 tFS_49_1 tSt_49 tS_60 tA_60 tZ_60 tF_60_0 tP_60_0 tFA_60_0 tFS_60_0 tF_60_1 tP_60_1 tFA_60_1 tFS_60_1 tF_60_2 tP_60_2 tFA_60_2 tFS_60_2 tF_60_3 tP_60_3 tFA_60_3 tFS_60_3 tSt_60 tS_62 tA_62 tZ_62 tF_62_0 tP_62_0 tFA_62_0 tFS_62_0 tF_62_1 tP_62_1 tFA_62_1 tFS_62_1 tF_62_2 tP_62_2 tFA_62_2 tFS_62_2 tF_62_3 tP_62_3 tFA_62_3 tFS_62_3 tF_62_4 tP_62_4 tFA_62_4 tFS_62_4 tF_62_5 tP_62_5 tFA_62_5 tFS_62_5 tSt_62 tS_65 tA_65 tZ_65 tE_65 tEl_65 tSl_65 tBy_65 tS_67 tA_67 tZ_67 tF_67_0 tP_67_0 tFA_67_0 tFS_67_0 tF_67_1 tP_67_1 tFA_67_1 tFS_67_1 tF_67_2 tP_67_2 tFA_67_2 tFS_67_2 tSt_67 tS_69 tA_69 tZ_69 tF_69_0 tP_69_0 tFA_69_0 tFS_69_0 tF_69_1 tP_69_1 tFA_69_1 tFS_69_1 tF_69_2 tP_69_2 tFA_69_2 tFS_69_2 tF_69_3 tP_69_3 tFA_69_3 tFS_69_3 tSt_69 tS_83 tA_83 tZ_83 tE_83 tEl_83 tSl_83 tBy_83 tS_85 tA_85 tZ_85 tF_85_0 tP_85_0 tFA_85_0 tFS_85_0 tF_85_1 tP_85_1 tFA_85_1 tFS_85_1 tSt_85 tS_87 tA_87 tZ_87 tF_87_0 tP_87_0 tFA_87_0 tFS_87_0 tF_87_1 tP_87_1 tFA_87_1 tFS_87_1 tF_87_2 tP_87_2 tFA_87_2 tFS_87_2 tF_87_3 tP_87_3 tFA_87_3 tFS_87_3 tSt_87 tS_89 tA_89 tZ_89 tE_89 tEl_89 tSl_89 tBy_89 tS_92 tA_92 tZ_92 tF_92_0 tP_92_0 tFA_92_0 tFS_92_0 tF_92_1 tP_92_1 tFA_92_1 tFS_92_1 tF_92_2 tP_92_2 tFA_92_2 tFS_92_2 tSt_92 tS_99 tA_99 tZ_99 tF_99_0 tP_99_0 tFA_99_0 tFS_99_0 tF_99_1 tP_99_1 tFA_99_1 tFS_99_1 tF_99_2 tP_99_2 tFA_99_2 tFS_99_2 tSt_99 tS_102 tA_102 tZ_102 tF_102_0 tP_102_0 tFA_102_0 tFS_102_0 tF_102_1 tP_102_1 tFA_102_1 tFS_102_1 tF_102_2 tP_102_2 tFA_102_2 tFS_102_2 tF_102_3 tP_102_3 tFA_102_3 tFS_102_3 tF_102_4 tP_102_4 tFA_102_4 tFS_102_4 tSt_102 tS_103 tA_103 tZ_103 tAy_103 tAr_103 tP_103_0 tP_103_1 tP_103_2 tP_103_3 tP_103_4 tP_103_5 tP_103_6 tP_103_7 tSt_103 tArS_103 tS_105 tA_105 tZ_105 tFn_105 tS_107 tA_107 tZ_107 tFn_107 tS_119 tA_119 tZ_119 tSt_119 tCo_119 tS_120 tA_120 tZ_120 tFn_120 tS_138 tA_138 tZ_138 tF_138_0 tP_138_0 tFA_138_0 tFS_138_0 tF_138_1 tP_138_1 tFA_138_1 tFS_138_1 tF_138_2 tP_138_2 tFA_138_2 tFS_138_2 tSt_138 tS_151 tA_151 tZ_151 tF_151_0 tP_151_0 tFA_151_0 tFS_151_0 tF_151_1 tP_151_1 tFA_151_1 tFS_151_1 tSt_151 tS_157 tA_157 tZ_157 tF_157_0 tP_157_0 tFA_157_0 tFS_157_0 tSt_157 tS_160 tA_160 tZ_160 tE_160 tEl_160 tSl_160 tBy_160 tS_162 tA_162 tZ_162 tF_162_0 tP_162_0 tFA_162_0 tFS_162_0 tF_162_1 tP_162_1 tFA_162_1 tFS_162_1 tF_162_2 tP_162_2 tFA_162_2 tFS_162_2 tF_162_3 tP_162_3 tFA_162_3 tFS_162_3 tF_162_4 tP_162_4 tFA_162_4 tFS_162_4 tSt_162 tS_166 tA_166 tZ_166 tF_166_0 tP_166_0 tFA_166_0 tFS_166_0 tF_166_1 tP_166_1 tFA_166_1 tFS_166_1 tF_166_2 tP_166_2 tFA_166_2 tFS_166_2 tSt_166 tS_170 tA_170 tZ_170 tE_170 tEl_170 tSl_170 tBy_170 tS_173 tA_173 tZ_173 tF_173_0 tP_173_0 tFA_173_0 tFS_173_0 tF_173_1 tP_173_1 tFA_173_1 tFS_173_1 tSt_173 tS_174 tA_174 tZ_174 tI_174 tS_190 tA_190 tZ_190 tFn_190 tS_198 tA_198 tZ_198 tF_198_0 tP_198_0 tFA_198_0 tFS_198_0 tF_198_1 tP_198_1 tFA_198_1 tFS_198_1 tF_198_2 tP_198_2 tFA_198_2 tFS_198_2 tF_198_3 tP_198_3 tFA_198_3 tFS_198_3 tSt_198 tS_200 tA_200 tZ_200 tF_200_0 tP_200_0 tFA_200_0 tFS_200_0 tF_200_1 tP_200_1 tFA_200_1 tFS_200_1 tF_200_2 tP_200_2 tFA_200_2 tFS_200_2 tF_200_3 tP_200_3 tFA_200_3 tFS_200_3 tF_200_4 tP_200_4 tFA_200_4 tFS_200_4 tF_200_5 tP_200_5 tFA_200_5 tFS_200_5 tSt_200 tS_204 tA_204 tZ_204 tI_204 tS_208 tA_208 tZ_208 tF_208_0 tP_208_0 tFA_208_0 tFS_208_0 tSt_208 tCo_208 tS_211 tA_211 tZ_211 tF_211_0 tP_211_0 tFA_211_0 tFS_211_0 tF_211_1 tP_211_1 tFA_211_1 tFS_211_1 tF_211_2 tP_211_2 tFA_211_2 tFS_211_2 tF_211_3 tP_211_3 tFA_211_3 tFS_211_3 tF_211_4 tP_211_4 tFA_211_4 tFS_211_4 tSt_211 tS_212 tA_212 tZ_212 tE_212 tEl_212 tSl_212 tBy_212 tS_214 tA_214 tZ_214 tF_214_0 tP_214_0 tFA_214_0 tFS_214_0 tF_214_1 tP_214_1 tFA_214_1 tFS_214_1 tF_214_2 tP_214_2 tFA_214_2 tFS_214_2 tF_214_3 tP_214_3 tFA_214_3 tFS_214_3 tF_214_4 tP_214_4 tFA_214_4 tFS_214_4 tF_214_5 tP_214_5 tFA_214_5 tFS_214_5 tSt_214 tS_217 tA_217 tZ_217 tI_217 tS_228 tA_228 tZ_228 tAy_228 tAr_228 tP_228_0 tP_228_1 tP_228_2 tP_228_3 tP_228_4 tP_228_5 tP_228_6 tP_228_7 tP_228_8 tSt_228 tArS_228 tS_232 tA_232 tZ_232 tAy_232 tAr_232 tP_232_0 tP_232_1 tP_232_2 tP_232_3 tP_232_4 tP_232_5 tP_232_6 tP_232_7 tP_232_8 tP_232_9 tP_232_10 tP_232_11 tP_232_12 tP_232_13 tP_232_14 tP_232_15 tSt_232 tArS_232 tS_241 tA_241 tZ_241 tE_241 tEl_241 tSl_241 tBy_241 zs_m zo_m zs_3 zo_3 zi_3 zs_4 zo_4 zi_4 zs_5 zo_5 zi_5 zs_9 zo_9 zi_9 zs_24 zo_24 zi_24 zs_25 zo_25 zi_25 zs_30 zo_30 zi_30 zs_32 zo_32 zi_32 zs_49 zo_49 zi_49 zs_60 zo_60 zi_60 zs_62 zo_62 zi_62 zs_67 zo_67 zi_67 zs_69 zo_69 zi_69 zs_85 zo_85 zi_85 zs_87 zo_87 zi_87 zs_99 zo_99 zi_99 zs_102 zo_102 zi_102 zs_103 zo_103 zi_103 zs_119 zo_119 zi_119 zs_138 zo_138 zi_138 zs_151 zo_151 zi_151 zs_157 zo_157 zi_157 zs_162 zo_162 zi_162 zs_166 zo_166 zi_166 zs_173 zo_173 zi_173 zs_190 zo_190 zi_190 zs_198 zo_198 zi_198 zs_200 zo_200 zi_200 zs_208 zo_208 zi_208 zs_211 zo_211 zi_211 zs_214 zo_214 zi_214 zs_228 zo_228 zi_228 zs_232 zo_232 zi_232
end Go.Proofs.YtifnhpmeoogedaaGreatDoor
namespace Go.Proofs.YtifnhpmeoogedaaGreatDoor
open Go Go.Sx Go.Rt Go.Proofs
theorem c_cell_outside (x lo hi : Int) (H : Heap) (n : Nat) : Ret Tryz.prog 102 [.int .i64 x, .int .i64 lo, .int .i64 hi] H n (.bool (bout x lo hi)) H n := by
  refine acalls_of_awp Tryz.func102 rfl Tryz.ntmps102 (congrArg Array.toList Tryz.results102) (by simp) ?_
  simp only [go_sem]
  refine awp_rq zs [0, 1, 2] ?_
  refine awp_rq zs [6] ?_
  refine awp_ret ?_
  try simp only [go_sem, seval]
  unfold bout; by_cases h : x < lo <;> simp [h]
theorem c_cell_letter (b : UInt8) (H : Heap) (n : Nat) : Ret Tryz.prog 138 [byteAV b] H n (.bool (letterB b)) H n := by
  refine acalls_of_awp Tryz.func138 rfl Tryz.ntmps138 (congrArg Array.toList Tryz.results138) (by simp) ?_
  simp only [go_sem]
  refine awp_rq zs [0] ?_
  refine awp_rq zs [2] ?_
  refine awp_ret ?_
  try simp only [go_sem, seval]
  unfold letterB; by_cases h : 97 ≤ (b.toNat : Int) <;> simp [h]
theorem c_bytes_Equal (a b : List UInt8) (H : Heap) (n : Nat) : Ret Tryz.prog 77 [bys a, bys b] H n (.bool (a == b)) H n := by
  refine acalls_of_awp Tryz.func77 rfl Tryz.ntmps77 (congrArg Array.toList Tryz.results77) (by simp) ?_
  simp only [go_sem]
  refine awp_reg zs [0, 1] fun K hK => ?_
  try simp only [go_sem, seval]
  repeat (first | (refine And.intro ?_ ?_; · first | exact bys_isByte _ | trivial) | refine peel ?_)
  refine hK _ _ _ ?_; clear hK K
  refine awp_reg zs [4] fun K hK => ?_
  try simp only [go_sem, seval]
  repeat (first | (refine And.intro ?_ ?_; · first | exact bys_isByte _ | trivial) | refine peel ?_)
  refine hK _ _ _ ?_; clear hK K
  refine awp_ret ?_
  try simp only [go_sem, seval]
  rw [map_byteOf, map_byteOf]
end Go.Proofs.YtifnhpmeoogedaaGreatDoor
namespace Go.Sx
open Go
section
variable {P : Program} {ops : Array Oper}
def Behind (K : Act → World → Prop) (R : Exit → Act → World → Prop) : Exit → Act → World → Prop
  | .normal, a, w => K a w
  | e, a, w => R e a w
theorem wpList_append {R : Exit → Act → World → Prop} {l2 : List Oper} : ∀ (l : List Oper) (a : Act) (w : World),
    wpList P ops (Behind (wpList P ops R l2) R) l a w → wpList P ops R (l ++ l2) a w
  | [], _, _, h => h
  | o :: l, a, w, h => by
    have ih := wpList_append (R := R) (l2 := l2) l
    rw [List.cons_append]
    unfold wpList at h ⊢
    split
    · rename_i hw
      rw [if_pos hw] at h
      refine h.imp (fun h => ?_) (fun ⟨h1, a', w', h2⟩ => ⟨h1, a', w', h2⟩)
      unfold Oper.wp at h ⊢
      generalize (execOp a.eval o).run P w = r at *
      cases r with
      | ok nx w' =>
        cases nx <;> simp only [Oper.upon] at h ⊢ <;> first
          | exact ih _ _ h
          | exact Calls.mono h (fun e w'' he => by cases e <;> first | exact ih _ _ he | exact he | (obtain ⟨a', w', h2⟩ := he; exact ⟨a', w', h2⟩))
          | exact Rows.mono h (fun _ _ he => ih _ _ he)
          | exact h
      | halt x w' => cases x <;> simp only [Oper.upon] at h ⊢ <;> exact h
    · rename_i hw
      rw [if_neg hw] at h
      exact ih _ _ h
def wpListS (P : Program) (ops : Array Oper) (Q : Exit → Act → List Frame → World → Prop) : List Oper → Act → List Frame → World → Prop
  | [], a, cs, w => Q .normal a cs w
  | o :: rest, a, cs, w =>
    if Region.wanted o (yielded ops a.tmps) then
      match (execOp a.eval o).run P w with
      | .ok .recover w' =>
        match recoverD cs with
        | some (v, cs') => wpListS P ops Q rest (a.put o.dst v) cs' w'
        | none => wpListS P ops Q rest (a.put o.dst .nilIface) cs w'
      | r => o.upon P a (fun a' w' => wpListS P ops Q rest a' cs w') (fun e a' w' => Q e a' cs w') r
    else wpListS P ops Q rest (a.put o.dst undef) cs w
theorem wpOpsS_eq {Q : Exit → Act → List Frame → World → Prop} (l : List Oper) : ∀ k, (∀ j, l[j]? = ops[k + j]?) → wpOpsS P ops Q (List.range' k l.length) = wpListS P ops Q l := by
  induction l with
  | nil => intro k _; funext a cs w; simp [wpOpsS, wpListS]
  | cons o l ih =>
    intro k h
    have h0 : ops[k]? = some o := by simpa using (h 0).symm
    have ih' := ih (k + 1) (fun j => by have := h (j + 1); simpa [Nat.add_assoc, Nat.add_comm 1 j] using this)
    funext a cs w
    simp only [List.length_cons, List.range'_succ, wpOpsS, h0, wpListS, ih']
    rfl
theorem wpS_region_list {Q : Exit → Act → List Frame → World → Prop} {a : Act} {cs : List Frame} {w : World} {id : Nat} (h : wpListS P ops Q ops.toList a cs w) : (Code.region id ops false).wpS P Q a cs w :=
  wpS_region (by rw [List.range_eq_range', ← Array.length_toList, wpOpsS_eq ops.toList 0 (by simp)]; exact h)
theorem wpListS_pre {Q : Exit → Act → List Frame → World → Prop} {l2 : List Oper} {cs : List Frame} (hQ : ∀ a w, ¬ Q .outgrown a cs w) : ∀ (l : List Oper) (a : Act) (w : World),
    wpList P ops (Behind (fun a w => wpListS P ops Q l2 a cs w) (fun e a w => Q e a cs w)) l a w → wpListS P ops Q (l ++ l2) a cs w
  | [], _, _, h => h
  | o :: l, a, w, h => by
    have ih := wpListS_pre (Q := Q) (l2 := l2) hQ l
    rw [List.cons_append]
    unfold wpList at h
    unfold wpListS
    split
    · rename_i hw
      rw [if_pos hw] at h
      rcases h with h | ⟨_, a', w', h2⟩
      · unfold Oper.wp at h
        generalize (execOp a.eval o).run P w = r at *
        cases r with
        | ok nx w' =>
          cases nx <;> simp only [Oper.upon] at h ⊢ <;> first
            | exact ih _ _ h
            | exact Calls.mono h (fun e w'' he => by cases e <;> first | exact ih _ _ he | exact he | (obtain ⟨a', w', h2⟩ := he; exact (hQ _ _ h2).elim))
            | exact Rows.mono h (fun _ _ he => ih _ _ he)
            | exact h.elim
        | halt x w' => cases x <;> simp only [Oper.upon] at h ⊢ <;> first | exact h | exact h.elim
      · exact (hQ _ _ h2).elim
    · rename_i hw
      rw [if_neg hw] at h
      exact ih _ _ h
end
structure ADef where
  f : FuncId
  args : List AV
def defRel (P : Program) (c : Ctx) (D : ADef) (ds : List Deferred) : Prop :=
  ∃ (d : Deferred) (cap : Array Value) (fn : Func) (vs : List Value), ds = [d] ∧ d.target = .fn (.func D.f) cap ∧ d.args ++ cap = vs.toArray ∧ RelT c D.args vs ∧
    P.funcs[D.f]? = some fn ∧ fn.body.isSome = true ∧ (fn.name == "runtime.NumGoroutine") = false
theorem defRel.mono {P : Program} {c c' : Ctx} (h : c.le c') {D : ADef} {ds : List Deferred} (hd : defRel P c D ds) : defRel P c' D ds := by
  obtain ⟨d, cap, fn, vs, h1, h2, h3, h4, h5⟩ := hd
  exact ⟨d, cap, fn, vs, h1, h2, h3, RelT.mono h _ _ h4, h5⟩
inductive AMode where
  | ret
  | pan (p : AV)
def modeRel (c : Ctx) : AMode → FrameMode → Prop
  | .ret, u => u = .returning
  | .pan p, u => ∃ v, u = .panicking [{ v, recovered := false }] ∧ Rel c p false [v]
def ACallsD (P : Program) (f : FuncId) (args : List AV) (m : AMode) (H : Heap) (n : Nat) (K : AMode → Heap → Nat → Prop) : Prop :=
  ∀ (c : Ctx) (w : World) (vs : List Value) (u : FrameMode), Sim c H n w → RelT c args vs → modeRel c m u →
    CallsD P f vs.toArray u w fun e u' w' => (∃ v, e = .returned v) ∧ ∃ m' c' H' n', K m' H' n' ∧ Step c H w c' H' n' w' ∧ modeRel c' m' (settle u')
theorem ACallsD.mono {P : Program} {f : FuncId} {args : List AV} {m : AMode} {H : Heap} {n : Nat} {K K' : AMode → Heap → Nat → Prop}
    (h : ACallsD P f args m H n K) (hk : ∀ m H n, K m H n → K' m H n) : ACallsD P f args m H n K' := fun c w vs u hs hr hm =>
  (h c w vs u hs hr hm).mono fun _ _ _ ⟨he, m', c', H', n', hK, hst⟩ => ⟨he, m', c', H', n', hk _ _ _ hK, hst⟩
def APostD (P : Program) (N : Nat) (c : Ctx) (H : Heap) (w : World) (Q0 : AEx → (Nat → AV) → Heap → Nat → Prop) (QD : ADef → AEx → (Nat → AV) → Heap → Nat → Prop) (e : Exit) (a' : Act) (w' : World) : Prop :=
  ∃ ae c' T' H' n', exMatch c' ae e ∧ Step c H w c' H' n' w' ∧ RelTmps c' T' a'.tmps ∧ a'.tmps.size = N ∧
    ((a'.defers = [] ∧ Q0 ae T' H' n') ∨ ∃ D, defRel P c' D a'.defers ∧ QD D ae T' H' n')
def awpD (P : Program) (N : Nat) (code : Code) (T : Nat → AV) (H : Heap) (n : Nat) (Q0 : AEx → (Nat → AV) → Heap → Nat → Prop) (QD : ADef → AEx → (Nat → AV) → Heap → Nat → Prop) : Prop :=
  ∀ (c : Ctx) (w : World) (a : Act), Sim c H n w → RelTmps c T a.tmps → a.tmps.size = N → a.defers = [] → code.wp P (APostD P N c H w Q0 QD) a w
section
variable {P : Program} {N : Nat} {T : Nat → AV} {H : Heap} {n : Nat} {Q0 : AEx → (Nat → AV) → Heap → Nat → Prop} {QD : ADef → AEx → (Nat → AV) → Heap → Nat → Prop}
theorem APostD.step {c c1 : Ctx} {H H1 : Heap} {n1 : Nat} {w w1 : World} (h : Step c H w c1 H1 n1 w1) {e : Exit} {a' : Act} {w' : World}
    (hp : APostD P N c1 H1 w1 Q0 QD e a' w') : APostD P N c H w Q0 QD e a' w' := by
  obtain ⟨ae, c', T', H', n', hm, hst, hr⟩ := hp
  exact ⟨ae, c', T', H', n', hm, h.trans hst, hr⟩
theorem awpD_seq {x y : Code} (h : awp P N x T H n (AThen (fun T H n => awpD P N y T H n Q0 QD) Q0)) : awpD P N (.seq x y) T H n Q0 QD := fun c w a hs hr hN hd => by
  refine wp_seq (Go.wp_mono (h c w a hs hr hN [] hd) ?_)
  rintro e a' w' ⟨ae, c', T', H', n', hQ, hm, hst, hr', hN', hd'⟩
  cases ae with
  | normal =>
    cases e <;> simp only [exMatch] at hm
    simp only [AThen] at hQ
    show y.wp P _ a' w'
    exact Go.wp_mono (hQ c' w' a' hst.sim hr' hN' hd') fun e a2 w2 hp => hp.step hst
  | exit i =>
    cases e <;> simp only [exMatch] at hm
    subst hm
    exact ⟨.exit i, c', T', H', n', rfl, hst, hr', hN', .inl ⟨hd', hQ⟩⟩
  | ret =>
    cases e <;> simp only [exMatch] at hm
    exact ⟨.ret, c', T', H', n', trivial, hst, hr', hN', .inl ⟨hd', hQ⟩⟩
  | pan p =>
    cases e <;> simp only [exMatch] at hm
    exact ⟨.pan p, c', T', H', n', hm, hst, hr', hN', .inl ⟨hd', hQ⟩⟩
theorem awpD_sel (live : List Nat) {code : Code} (h : awpD P N code (tsel live T) H n Q0 QD) : awpD P N code T H n Q0 QD := fun c w a hs hr hN hd => h c w a hs (tsel_rel live hr) hN hd
theorem awpD_reg {id : Nat} {l : List Oper} {y : Code} (z : TypeId → AV) (live : List Nat)
    (h : ∀ K : (Nat → AV) → Heap → Nat → Prop, (∀ T H n, awpD P N y T H n Q0 QD → K T H n) → erun P z N l.toArray l T H n (AThen (fun T' H' n' => K (tsel live T') H' n') Q0)) :
    awpD P N (.seq (.region id l.toArray false) y) T H n Q0 QD :=
  awpD_seq (awp_region z (by simpa using h (fun T' H' n' => awpD P N y T' H' n' Q0 QD) (fun _ _ _ h => h)) |>.mono fun e T' H' n' hq => by
    cases e <;> first | exact awpD_sel live hq | exact hq)
def deferK (P : Program) (fv : AV) (args : List AV) (k : ADef → Prop) : Prop :=
  match fv with
  | .fn (.func f) first captured => (∃ fn : Func, P.funcs[f]? = some fn ∧ fn.body.isSome = true ∧ (fn.name == "runtime.NumGoroutine") = false) ∧ k ⟨f, first ++ args ++ captured⟩
  | _ => False
theorem deferK_use {f : FuncId} {fn : Func} {first captured args args' : List AV} {k : ADef → Prop} (hf : P.funcs[f]? = some fn) (hb : fn.body.isSome = true) (hn : (fn.name == "runtime.NumGoroutine") = false)
    (ha : first ++ args ++ captured = args') (hk : k ⟨f, args'⟩) : deferK P (.fn (.func f) first captured) args k := ⟨⟨fn, hf, hb, hn⟩, ha ▸ hk⟩
theorem awpD_defer {id : Nat} {pre post : List Oper} {dst : Option Tmp} {fo : Operand} {dargs : List Operand} {ts : Array TypeId} {ty : TypeId} {pos : String} {after : Array Edge} {l : List Oper} {y : Code} (z : TypeId → AV) (live : List Nat)
    (hl : l = pre ++ ⟨dst, .defer ⟨.value fo, dargs.toArray, ts⟩, ty, pos, after, none⟩ :: post) (hdst : dOK N dst)
    (h : ∀ K : ADef → (Nat → AV) → Heap → Nat → Prop, (∀ D T H n, awp P N y T H n (QD D) → K D T H n) →
      erun P z N l.toArray pre T H n (AThen (fun T1 H1 n1 => deferK P (evO T1 fo) (dargs.map (evO T1)) fun D =>
        erun P z N l.toArray post (tput T1 dst .junk) H1 n1 (AThen (fun T2 H2 n2 => K D (tsel live T2) H2 n2) (QD D))) fun _ _ _ _ => False)) :
    awpD P N (.seq (.region id l.toArray false) y) T H n Q0 QD := fun c w a hs hr hN hd => by
  have h := h (fun D T H n => awp P N y T H n (QD D)) (fun _ _ _ _ h => h)
  refine wp_seq (wp_region_list ?_)
  show wpList P l.toArray _ l.toArray.toList a w
  rw [show l.toArray.toList = pre ++ ⟨dst, .defer ⟨.value fo, dargs.toArray, ts⟩, ty, pos, after, none⟩ :: post from hl]
  refine wpList_append pre a w (wpList_mono ?_ pre a w (erun_sound _ _ _ _ h c w a hs hr hN [] hd))
  rintro e a1 w1 ⟨ae, c1, T1, H1, n1, hQ, hm, hst1, hr1, hN1, hd1⟩
  cases ae with
  | normal =>
    cases e <;> simp only [exMatch] at hm
    simp only [AThen] at hQ
    generalize hfo : evO T1 fo = fv at hQ
    cases fv <;> simp only [deferK] at hQ
    rename_i f first captured
    cases f <;> simp only at hQ
    rename_i f
    obtain ⟨⟨fn, hfn, hbody, hname⟩, hk⟩ := hQ
    have hf := evO_rel hr1 fo
    rw [hfo] at hf
    simp only [Rel, List.cons.injEq, and_true] at hf
    obtain ⟨fv, cv, ef, hf1, hf2⟩ := hf
    have hargs : RelT c1 (dargs.map (evO T1)) (dargs.map a1.eval) := RelT.of_map dargs fun x _ => evO_rel hr1 x
    show wpList P l.toArray _ (_ :: post) a1 w1
    unfold wpList
    rw [if_pos (wanted_none rfl)]
    left
    have hrun : (execOp a1.eval ⟨dst, .defer ⟨.value fo, dargs.toArray, ts⟩, ty, pos, after, none⟩).run P w1 = .ok (.defer { target := .fn (.func f) cv, args := fv ++ (dargs.map a1.eval).toArray }) w1 := by
      simp [execOp, resolve, ef, Deferred.ofValue]
    unfold Oper.wp
    rw [hrun]
    simp only [Oper.upon]
    have hd' : ∀ d, dst = some d → d < a1.tmps.size := fun d hd2 => by rw [hd2] at hdst; rw [hN1]; exact hdst
    have hD : defRel P c1 ⟨f, first ++ dargs.map (evO T1) ++ captured⟩ [{ target := .fn (.func f) cv, args := fv ++ (dargs.map a1.eval).toArray }] :=
      ⟨_, cv, fn, fv.toList ++ dargs.map a1.eval ++ cv.toList, rfl, rfl, by simp, RelT.append.2 ⟨_, _, rfl, RelT.append.2 ⟨_, _, rfl, hf1, hargs⟩, hf2⟩, hfn, hbody, hname⟩
    have hrun2 := erun_sound _ _ _ _ hk c1 w1 (({ a1 with defers := { target := .fn (.func f) cv, args := fv ++ (dargs.map a1.eval).toArray } :: a1.defers } : Act).put dst undef) hst1.sim
      (tput_rel (a := { a1 with defers := { target := .fn (.func f) cv, args := fv ++ (dargs.map a1.eval).toArray } :: a1.defers }) hr1 (r := .junk) (v := undef) (by simp [Rel]) hd') (by rw [put_size]; exact hN1) [{ target := .fn (.func f) cv, args := fv ++ (dargs.map a1.eval).toArray }] (by rw [put_defers']; simp [hd1])
    refine wpList_mono ?_ post _ _ hrun2
    rintro e a2 w2 ⟨ae, c2, T2, H2, n2, hQ2, hm2, hst2, hr2, hN2, hd2⟩
    have hD2 : ∀ (c3 : Ctx) (a3 : Act), c2.le c3 → a3.defers = [{ target := .fn (.func f) cv, args := fv ++ (dargs.map a1.eval).toArray }] → defRel P c3 ⟨f, first ++ dargs.map (evO T1) ++ captured⟩ a3.defers := fun c3 a3 hle h3 => by
      rw [h3]; exact (hD.mono hst2.le).mono hle
    cases ae with
    | normal =>
      cases e <;> simp only [exMatch] at hm2
      simp only [AThen] at hQ2
      show y.wp P _ a2 w2
      refine Go.wp_mono (awp_sel live hQ2 c2 w2 a2 hst2.sim hr2 hN2 _ hd2) ?_
      rintro e a3 w3 ⟨ae, c3, T3, H3, n3, hQ3, hm3, hst3, hr3, hN3, hd3⟩
      exact ⟨ae, c3, T3, H3, n3, hm3, (hst1.trans hst2).trans hst3, hr3, hN3, .inr ⟨_, hD2 c3 a3 hst3.le hd3, hQ3⟩⟩
    | exit i =>
      cases e <;> simp only [exMatch] at hm2
      subst hm2
      exact ⟨.exit i, c2, T2, H2, n2, rfl, hst1.trans hst2, hr2, hN2, .inr ⟨_, hD2 c2 a2 (.refl _) hd2, hQ2⟩⟩
    | ret =>
      cases e <;> simp only [exMatch] at hm2
      exact ⟨.ret, c2, T2, H2, n2, trivial, hst1.trans hst2, hr2, hN2, .inr ⟨_, hD2 c2 a2 (.refl _) hd2, hQ2⟩⟩
    | pan p =>
      cases e <;> simp only [exMatch] at hm2
      exact ⟨.pan p, c2, T2, H2, n2, hm2, hst1.trans hst2, hr2, hN2, .inr ⟨_, hD2 c2 a2 (.refl _) hd2, hQ2⟩⟩
  | exit i => exact hQ.elim
  | ret => exact hQ.elim
  | pan p => exact hQ.elim
end
def FinA (P : Program) (rs : List ResultVar) (K : ARes → Heap → Nat → Prop) (T : Nat → AV) : AMode → Heap → Nat → Prop
  | .ret, H', n' => contL (resC P H' T rs) fun l => K (.val (resV l)) H' n'
  | .pan p, H', n' => K (.pan p) H' n'
def FinD (P : Program) (rs : List ResultVar) (K : ARes → Heap → Nat → Prop) (D : ADef) : AEx → (Nat → AV) → Heap → Nat → Prop
  | .normal, T, H, n => ACallsD P D.f D.args .ret H n (FinA P rs K T)
  | .ret, T, H, n => ACallsD P D.f D.args .ret H n (FinA P rs K T)
  | .pan p, T, H, n => ACallsD P D.f D.args (.pan p) H n (FinA P rs K T)
  | .exit _, _, _, _ => False
theorem args_rel {c : Ctx} {args : List AV} {vs : List Value} {N : Nat} (hr : RelT c args vs) (hlen : args.length ≤ N) :
    RelTmps c (argT args) (vs.toArray ++ Array.replicate (N - vs.toArray.size) undef) ∧ (vs.toArray ++ Array.replicate (N - vs.toArray.size) undef).size = N := by
  have hl : vs.length = args.length := by
    clear hlen
    induction args generalizing vs with
    | nil => simp only [RelT] at hr; subst hr; rfl
    | cons x xs ih =>
      simp only [RelT] at hr
      obtain ⟨v, r, rfl, _, h2⟩ := hr
      simp [ih h2]
  refine ⟨fun t => ?_, by simp; omega⟩
  rcases Nat.lt_or_ge t args.length with ht | ht
  · obtain ⟨v, hv, hrel⟩ := RelT.nth hr (List.getElem?_eq_getElem ht)
    have e : (vs.toArray ++ Array.replicate (N - vs.toArray.size) undef).getD t undef = v := by
      rw [Array.getD_eq_getD_getElem?, Array.getElem?_append_left (by simpa [hl] using ht)]
      simp [hv]
    rw [e]
    simpa [argT, List.getD, List.getElem?_eq_getElem ht] using hrel
  · have : argT args t = .junk := by simp [argT, List.getD, List.getElem?_eq_none ht]
    rw [this]
    simp [Rel]
theorem acalls_of_awpD {P : Program} {f : FuncId} {fn : Func} {code : Code} {args : List AV} {H : Heap} {n N : Nat} {rs : List ResultVar} {K : ARes → Heap → Nat → Prop}
    (hf : P.funcs[f]? = some fn) (hb : fn.body = some code) (hN : fn.ntmps = N) (hrs : fn.results.toList = rs) (hlen : args.length ≤ N) (h : awpD P N code (tl (argL 0 args)) H n (Fin P rs K) (FinD P rs K)) : ACalls P f args H n K := fun c w vs hs hr => by
  rw [argT_rel] at h
  subst hN
  subst hrs
  obtain ⟨ha1, ha2⟩ := args_rel hr hlen
  refine calls_of_wp_defers hf hb (Go.wp_mono (h c w ⟨vs.toArray ++ Array.replicate (fn.ntmps - vs.toArray.size) undef, []⟩ hs ha1 ha2 rfl) ?_)
  rintro e a' w' ⟨ae, c', T', H', n', hm, hst, hr', _, hq⟩
  have fin : ∀ {c2 : Ctx} {H2 : Heap} {n2 : Nat} {w2 : World}, Step c H w c2 H2 n2 w2 → c'.le c2 → ∀ (x : Option (Prop × List AV)), x = resC P H2 T' fn.results.toList → contL x (fun l => K (.val (resV l)) H2 n2) →
      ∃ v, (results fn a'.tmps).run P w2 = .ok v w2 ∧ ∃ res c' H' n', K res H' n' ∧ Step c H w c' H' n' w2 ∧
        match Ending.returned v, res with
        | .returned v, .val r => Rel c' r false [v]
        | .panicked ch, .pan p => ∃ v, ch = [{ v, recovered := false }] ∧ Rel c' p false [v]
        | _, _ => False := fun {c2 H2 n2 w2} hst2 hle x hx hc => by
    cases x with
    | none => exact hc.elim
    | some p =>
      obtain ⟨C, l⟩ := p
      obtain ⟨hC, hK⟩ := hc
      obtain ⟨v, hv, hrel⟩ := results_run hst2.sim (RelTmps.mono hle hr') hx.symm hC
      exact ⟨v, hv, .val _, c2, H2, n2, hK, hst2, hrel⟩
  have go : ∀ (D : ADef) (m : AMode) (u : FrameMode), defRel P c' D a'.defers → modeRel c' m u → u ≠ .run →
      ACallsD P D.f D.args m H' n' (FinA P fn.results.toList K T') →
      Leaves P fn a'.tmps (fun e w' => ∃ res c' H' n', K res H' n' ∧ Step c H w c' H' n' w' ∧ match e, res with
        | .returned v, .val r => Rel c' r false [v]
        | .panicked ch, .pan p => ∃ v, ch = [{ v, recovered := false }] ∧ Rel c' p false [v]
        | _, _ => False) a'.defers u w' := fun D m u hD hmo hu hcall => by
    obtain ⟨d, cap, gf, vs2, hds, htar, hvs, hrel, hfn, hbody, hname⟩ := hD
    rw [hds]
    obtain ⟨t, dargs⟩ := d
    simp only at htar hvs
    subst htar
    refine leaves_cons hu (f := D.f) (args := vs2.toArray) ?_ ?_
    · have hbn : gf.body.isNone = false := by cases hh : gf.body <;> simp_all
      simp only [invoke, hvs, callFunc, run_program, Sem.run_bind, Result.andThen_ok, hfn, hname, hbn]
      simp
    · refine (hcall c' w' vs2 u hst.sim hrel hmo).mono ?_
      rintro e u' w2 ⟨⟨v, rfl⟩, m', c2, H2, n2, hK, hst2, hmo2⟩
      show Leaves P fn a'.tmps _ [] (settle u') w2
      cases m' with
      | ret =>
        simp only [modeRel] at hmo2
        rw [hmo2]
        exact fin (hst.trans hst2) hst2.le _ rfl hK
      | pan p =>
        simp only [modeRel] at hmo2
        obtain ⟨v2, hu2, hv2⟩ := hmo2
        rw [hu2]
        exact ⟨.pan p, c2, H2, n2, hK, hst.trans hst2, v2, rfl, hv2⟩
  rcases hq with ⟨hd0, hQ⟩ | ⟨D, hD, hQ⟩
  · cases ae with
    | normal =>
      cases e <;> simp only [exMatch] at hm
      show Leaves P fn a'.tmps _ a'.defers .returning w'
      rw [hd0]
      exact fin hst (.refl _) _ rfl hQ
    | ret =>
      cases e <;> simp only [exMatch] at hm
      show Leaves P fn a'.tmps _ a'.defers .returning w'
      rw [hd0]
      exact fin hst (.refl _) _ rfl hQ
    | exit i => exact hQ.elim
    | pan p =>
      cases e <;> simp only [exMatch] at hm
      rename_i ch
      show Leaves P fn a'.tmps _ a'.defers (.panicking ch) w'
      rw [hd0]
      exact ⟨.pan p, c', H', n', hQ, hst, hm⟩
  · cases ae with
    | normal =>
      cases e <;> simp only [exMatch] at hm
      exact go D .ret .returning hD rfl (by simp) hQ
    | ret =>
      cases e <;> simp only [exMatch] at hm
      exact go D .ret .returning hD rfl (by simp) hQ
    | exit i => exact hQ.elim
    | pan p =>
      cases e <;> simp only [exMatch] at hm
      rename_i ch
      exact go D (.pan p) (.panicking ch) hD (by obtain ⟨v, rfl, hv⟩ := hm; exact ⟨v, rfl, hv⟩) (by simp) hQ
def AMode.got : AMode → AV
  | .ret => .nili
  | .pan p => p
def FinS (P : Program) (rs : List ResultVar) (K : Heap → Nat → Prop) : AEx → (Nat → AV) → Heap → Nat → Prop
  | .normal, T, H, n => contL (resC P H T rs) fun _ => K H n
  | .ret, T, H, n => contL (resC P H T rs) fun _ => K H n
  | _, _, _, _ => False
theorem acallsD_of {P : Program} {f : FuncId} {fn : Func} {args : List AV} {H : Heap} {n N : Nat} {rs : List ResultVar} {m : AMode} {K : AMode → Heap → Nat → Prop}
    {id : Nat} {pre post : List Oper} {dst : Option Tmp} {ts : Array TypeId} {ty : TypeId} {pos : String} {after : Array Edge} {l : List Oper} {y : Code} (z : TypeId → AV) (live : List Nat)
    (hf : P.funcs[f]? = some fn) (hb : fn.body = some (.seq (.region id l.toArray false) y)) (hN : fn.ntmps = N) (hrs : fn.results.toList = rs) (hlen : args.length ≤ N)
    (hl : l = pre ++ ⟨dst, .call ⟨.builtin .recover, #[], ts⟩, ty, pos, after, none⟩ :: post) (hdst : dOK N dst)
    (h : ∀ J : (Nat → AV) → Heap → Nat → Prop, (∀ T H n, awp P N y T H n (FinS P rs (K .ret)) → J T H n) →
      erun P z N l.toArray pre (tl (argL 0 args)) H n (AThen (fun T1 H1 n1 => erun P z N l.toArray post (tput T1 dst m.got) H1 n1 (AThen (fun T2 H2 n2 => J (tsel live T2) H2 n2) fun _ _ _ _ => False)) fun _ _ _ _ => False)) :
    ACallsD P f args m H n K := fun c w vs u hs hr hmo => by
  have h := h (fun T H n => awp P N y T H n (FinS P rs (K .ret))) (fun _ _ _ h => h)
  rw [argT_rel] at h
  subst hN
  subst hrs
  obtain ⟨ha1, ha2⟩ := args_rel hr hlen
  refine callsD_of_wpS hf hb fun c0 cs hc0 => ?_
  have hc0' : ({ c0 with mode := u } : Frame) = c0 := by subst hc0; rfl
  refine wpS_seq (wpS_region_list ?_)
  rw [show l.toArray.toList = pre ++ ⟨dst, .call ⟨.builtin .recover, #[], ts⟩, ty, pos, after, none⟩ :: post from hl]
  have noOut : ∀ (cs2 : List Frame) (a : Act) (w' : World), ¬ Exit.thenS (y.wpS P (bodyPostS P fn c0 cs fun e u' w' => (∃ v, e = .returned v) ∧ ∃ m' c' H' n', K m' H' n' ∧ Step c H w c' H' n' w' ∧ modeRel c' m' (settle u'))) (bodyPostS P fn c0 cs fun e u' w' => (∃ v, e = .returned v) ∧ ∃ m' c' H' n', K m' H' n' ∧ Step c H w c' H' n' w' ∧ modeRel c' m' (settle u')) .outgrown a cs2 w' := by
    rintro cs2 a w' ⟨u', ⟨v, hv⟩, _⟩
    cases hv
  refine wpListS_pre (noOut _) pre _ w (wpList_mono ?_ pre _ w (erun_sound _ _ _ _ h c w ⟨vs.toArray ++ Array.replicate (fn.ntmps - vs.toArray.size) undef, []⟩ hs ha1 ha2 [] rfl))
  rintro e a1 w1 ⟨ae, c1, T1, H1, n1, hQ, hm, hst1, hr1, hN1, hd1⟩
  cases ae with
  | normal =>
    cases e <;> simp only [exMatch] at hm
    simp only [AThen] at hQ
    have hd' : ∀ d, dst = some d → d < a1.tmps.size := fun d hd2 => by rw [hd2] at hdst; rw [hN1]; exact hdst
    have cont : ∀ (u2 : FrameMode) (v2 : Value), Rel c1 m.got false [v2] → settle u2 = .returning →
        wpListS P l.toArray (Exit.thenS (y.wpS P (bodyPostS P fn c0 cs fun e u' w' => (∃ v, e = .returned v) ∧ ∃ m' c' H' n', K m' H' n' ∧ Step c H w c' H' n' w' ∧ modeRel c' m' (settle u'))) (bodyPostS P fn c0 cs fun e u' w' => (∃ v, e = .returned v) ∧ ∃ m' c' H' n', K m' H' n' ∧ Step c H w c' H' n' w' ∧ modeRel c' m' (settle u'))) post (a1.put dst v2) ({ c0 with mode := u2 } :: cs) w1 := fun u2 v2 hv2 hu2 => by
      have hrun := erun_sound _ _ _ _ hQ c1 w1 (a1.put dst v2) hst1.sim (tput_rel hr1 hv2 hd') (by rw [put_size, hN1]) [] (by rw [put_defers', hd1])
      rw [← List.append_nil post]
      refine wpListS_pre (noOut _) post _ w1 (wpList_mono ?_ post _ w1 hrun)
      rintro e a2 w2 ⟨ae, c2, T2, H2, n2, hQ2, hm2, hst2, hr2, hN2, hd2⟩
      cases ae with
      | normal =>
        cases e <;> simp only [exMatch] at hm2
        simp only [AThen] at hQ2
        show y.wpS P _ a2 _ w2
        refine wpS_of_wp (Go.wp_mono (awp_sel live hQ2 c2 w2 a2 hst2.sim hr2 hN2 [] hd2) ?_)
        rintro e a3 w3 ⟨ae, c3, T3, H3, n3, hQ3, hm3, hst3, hr3, hN3, hd3⟩
        have fin : ∀ (x : Option (Prop × List AV)), x = resC P H3 T3 fn.results.toList → contL x (fun _ => K .ret H3 n3) →
            a3.defers = [] ∧ ∃ u', ({ c0 with mode := u2 } :: cs : List Frame) = { c0 with mode := u' } :: cs ∧ ∃ v, (results fn a3.tmps).run P w3 = .ok v w3 ∧ (∃ v', Ending.returned v = .returned v') ∧ ∃ m' c' H' n', K m' H' n' ∧ Step c H w c' H' n' w3 ∧ modeRel c' m' (settle u') := fun x hx hc => by
          cases x with
          | none => exact hc.elim
          | some p =>
            obtain ⟨C, lr⟩ := p
            obtain ⟨hC, hK⟩ := hc
            obtain ⟨v, hv, _⟩ := results_run hst3.sim hr3 hx.symm hC
            exact ⟨hd3, u2, rfl, v, hv, ⟨v, rfl⟩, .ret, c3, H3, n3, hK, (hst1.trans hst2).trans hst3, hu2⟩
        cases ae with
        | normal =>
          cases e <;> simp only [exMatch] at hm3
          exact fin _ rfl hQ3
        | ret =>
          cases e <;> simp only [exMatch] at hm3
          exact fin _ rfl hQ3
        | exit i => exact hQ3.elim
        | pan p => exact hQ3.elim
      | exit i => exact hQ2.elim
      | ret => exact hQ2.elim
      | pan p => exact hQ2.elim
    show wpListS P l.toArray _ (_ :: post) a1 (c0 :: cs) w1
    unfold wpListS
    rw [if_pos (wanted_none rfl)]
    have hrun : (execOp a1.eval ⟨dst, .call ⟨.builtin .recover, #[], ts⟩, ty, pos, after, none⟩).run P w1 = .ok .recover w1 := by
      simp [execOp, resolve, invoke, builtin]
    rw [hrun]
    cases m with
    | ret =>
      have hu : u = .returning := hmo
      have hrec : recoverD (c0 :: cs) = none := by simp [recoverD, hc0, hu]
      simp only [hrec]
      have := cont u .nilIface (by simp [AMode.got, Rel]) (by rw [hu]; rfl)
      rw [hc0'] at this
      exact this
    | pan p =>
      obtain ⟨v, hu, hv⟩ := hmo
      have hrec : recoverD (c0 :: cs) = some (v, { c0 with mode := .panicking [{ v, recovered := true }] } :: cs) := by simp [recoverD, hc0, hu]
      simp only [hrec]
      exact cont _ v (Rel.mono hst1.le _ _ _ hv) rfl
  | exit i => exact hQ.elim
  | ret => exact hQ.elim
  | pan p => exact hQ.elim
theorem opSplit {l : List Oper} {k : Nat} {o : Oper} (h : opAt l k = some o) : l = l.take k ++ o :: l.drop (k + 1) := by
  rw [opAt_eq] at h
  have hlt : k < l.length := by
    rcases Nat.lt_or_ge k l.length with h' | h'
    · exact h'
    · rw [List.getElem?_eq_none h'] at h; simp at h
  have e : l[k] = o := by rw [List.getElem?_eq_getElem hlt] at h; exact Option.some.inj h
  rw [← e, ← List.drop_eq_getElem_cons hlt, List.take_append_drop]
section
variable {P : Program} {N : Nat} {T : Nat → AV} {H : Heap} {n : Nat} {Q : AEx → (Nat → AV) → Heap → Nat → Prop} {Q0 : AEx → (Nat → AV) → Heap → Nat → Prop} {QD : ADef → AEx → (Nat → AV) → Heap → Nat → Prop}
theorem awpD_def {id : Nat} {dst : Option Tmp} {fo : Operand} {dargs : List Operand} {ts : Array TypeId} {ty : TypeId} {pos : String} {after : Array Edge} {l : List Oper} {y : Code} (z : TypeId → AV) (live : List Nat) (k : Nat)
    (hl : opAt l k = some ⟨dst, .defer ⟨.value fo, dargs.toArray, ts⟩, ty, pos, after, none⟩) (hdst : dOK N dst)
    (h : ∀ K : ADef → (Nat → AV) → Heap → Nat → Prop, (∀ D T H n, awp P N y T H n (QD D) → K D T H n) →
      erun P z N l.toArray (l.take k) T H n (AThen (fun T1 H1 n1 => deferK P (evO T1 fo) (dargs.map (evO T1)) fun D =>
        erun P z N l.toArray (l.drop (k + 1)) (tput T1 dst .junk) H1 n1 (AThen (fun T2 H2 n2 => K D (tsel live T2) H2 n2) (QD D))) fun _ _ _ _ => False)) :
    awpD P N (.seq (.region id l.toArray false) y) T H n Q0 QD := awpD_defer z live (opSplit hl) hdst h
def panK : AV → (AV → Prop) → Prop
  | .iface t v, k => k (.iface t v)
  | _, _ => False
theorem panK_iface (t : TypeId) (v : AV) (k : AV → Prop) : panK (.iface t v) k = k (.iface t v) := rfl
theorem ot_panic {dst : Option Tmp} {x : Operand} {ty : TypeId} {pos : String} {after : Array Edge} {guard : Option (Nat × Bool)} {ε : Operand → AV} {K : ARes → Heap → Nat → Prop}
    (h : panK (ε x) fun p => K (.pan p) H n) : OpT P ⟨dst, .panic x, ty, pos, after, guard⟩ ε H n K := fun c w a hs hr next Q' hn hp => by
  have hx := hr x (by simp [Op.operands])
  generalize hε : ε x = av at h hx
  cases av <;> simp only [panK] at h
  rename_i t v
  have hx' := hx
  simp only [Rel, List.cons.injEq, and_true] at hx
  obtain ⟨xv, ev, _⟩ := hx
  unfold Oper.wp
  have hrun : (execOp a.eval ⟨dst, .panic x, ty, pos, after, guard⟩).run P w = .halt (.panic (a.eval x)) w := by
    simp [execOp, ev, Instr.panic, goPanic]
  rw [hrun]
  exact hp _ _ c H n w h (.refl hs) hx'
theorem lrun_panic {ops : Array Oper} {l : List Oper} (z : TypeId → AV) (k : Nat) {dst : Option Tmp} {x : Operand} {ty : TypeId} {pos : String} {after : Array Edge} (hl : opAt l k = some ⟨dst, .panic x, ty, pos, after, none⟩) (hdst : dOK N dst)
    (h : erun P z N ops (l.take k) T H n (AThen (fun T1 H1 n1 => panK (evO T1 x) fun p => Q (.pan p) T1 H1 n1) Q)) : lrun P N ops l T H n Q := fun c w a hs hr hN ds hd => by
  rw [opSplit hl]
  refine wpList_append _ a w (wpList_mono ?_ _ a w (erun_sound _ _ _ _ h c w a hs hr hN ds hd))
  rintro e a1 w1 ⟨ae, c1, T1, H1, n1, hQ, hm, hst1, hr1, hN1, hd1⟩
  cases ae with
  | normal =>
    cases e <;> simp only [exMatch] at hm
    simp only [AThen] at hQ
    refine wpList_mono (fun e a w hp => hp.step hst1) _ _ _ (lrun_step (T := T1) (H := H1) (n := n1) (Q := Q) (ε := evO T1) (k := fun _ _ _ => False) (kp := fun p H n => Q (.pan p) T1 H n) hdst ((ot_panic (K := fun res H' n' => match res with | .val _ => False | .pan p => Q (.pan p) T1 H' n') hQ).mono fun r H n hk => by cases r <;> exact hk) hst1.sim hr1 hN1 hd1 (wanted_none rfl) (fun x _ => evO_rel hr1 x) id (fun _ _ _ h => h) (fun _ _ _ h => h.elim) (fun _ _ _ h => h))
  | exit i =>
    cases e <;> simp only [exMatch] at hm
    subst hm
    exact ⟨.exit i, c1, T1, H1, n1, hQ, rfl, hst1, hr1, hN1, hd1⟩
  | ret =>
    cases e <;> simp only [exMatch] at hm
    exact ⟨.ret, c1, T1, H1, n1, hQ, trivial, hst1, hr1, hN1, hd1⟩
  | pan p =>
    cases e <;> simp only [exMatch] at hm
    exact ⟨.pan p, c1, T1, H1, n1, hQ, hm, hst1, hr1, hN1, hd1⟩
theorem awp_pan1 {id : Nat} {l : List Oper} (z : TypeId → AV) (k : Nat) {dst : Option Tmp} {x : Operand} {ty : TypeId} {pos : String} {after : Array Edge} (hl : opAt l k = some ⟨dst, .panic x, ty, pos, after, none⟩) (hdst : dOK N dst)
    (h : erun P z N l.toArray (l.take k) T H n (AThen (fun T1 H1 n1 => panK (evO T1 x) fun p => Q (.pan p) T1 H1 n1) Q)) : awp P N (.region id l.toArray false) T H n Q :=
  fun c w a hs hr hN ds hd => wp_region_list (by simpa using lrun_panic z k hl hdst h c w a hs hr hN ds hd)
end
theorem acallsD_at {P : Program} {f : FuncId} {fn : Func} {args : List AV} {H : Heap} {n N : Nat} {rs : List ResultVar} {m : AMode} {K : AMode → Heap → Nat → Prop}
    {id : Nat} {dst : Option Tmp} {ts : Array TypeId} {ty : TypeId} {pos : String} {after : Array Edge} {l : List Oper} {y : Code} (z : TypeId → AV) (live : List Nat) (k : Nat)
    (hf : P.funcs[f]? = some fn) (hb : fn.body = some (.seq (.region id l.toArray false) y)) (hN : fn.ntmps = N) (hrs : fn.results.toList = rs) (hlen : args.length ≤ N)
    (hl : opAt l k = some ⟨dst, .call ⟨.builtin .recover, #[], ts⟩, ty, pos, after, none⟩) (hdst : dOK N dst)
    (h : ∀ J : (Nat → AV) → Heap → Nat → Prop, (∀ T H n, awp P N y T H n (FinS P rs (K .ret)) → J T H n) →
      erun P z N l.toArray (l.take k) (tl (argL 0 args)) H n (AThen (fun T1 H1 n1 => erun P z N l.toArray (l.drop (k + 1)) (tput T1 dst m.got) H1 n1 (AThen (fun T2 H2 n2 => J (tsel live T2) H2 n2) fun _ _ _ _ => False)) fun _ _ _ _ => False)) :
    ACallsD P f args m H n K := acallsD_of z live hf hb hN hrs hlen (opSplit hl) hdst h
attribute [go_sem] FinA.eq_1 FinA.eq_2 FinD.eq_1 FinD.eq_2 FinD.eq_3 deferK.eq_1 panK_iface AMode.got.eq_1 AMode.got.eq_2 FinS.eq_1 FinS.eq_2 List.take_succ_cons List.take_zero List.append_nil List.nil_append List.cons_append List.append_eq
end Go.Sx
namespace Go.Sx
open Go
theorem awp_seq_jl {P : Program} {N : Nat} {x y : Code} {T : Nat → AV} {H : Heap} {n : Nat} {Q : AEx → (Nat → AV) → Heap → Nat → Prop} (live : List Nat) (J : (Nat → AV) → Heap → Nat → Prop)
    (h : awp P N x T H n (AThen (fun T H n => J (tsel live T) H n) Q)) (hJ : ∀ T H n, J T H n → awp P N y T H n Q) : awp P N (.seq x y) T H n Q :=
  awp_seq (h.mono fun e T H n hq => by cases e <;> first | exact awp_sel live (hJ _ _ _ hq) | exact hq)
theorem awp_raw_sl {P : Program} {N : Nat} {code : Code} {T : Nat → AV} {H : Heap} {n : Nat} {Q : AEx → (Nat → AV) → Heap → Nat → Prop} (t : Tmp) {e : Nat} (hT : T t = .sl e [])
    (h : ∀ a cap, awp P N code (tput T (some t) (.raw (.slice a 0 cap))) H n Q) : awp P N code T H n Q := fun c w a hs hr hN ds hd => by
  have ht := hr t
  rw [hT] at ht
  simp only [Rel, List.cons.injEq, and_true, List.length_nil] at ht
  obtain ⟨ad, cap, ev, _⟩ := ht
  refine h ad cap c w a hs (fun u => ?_) hN ds hd
  simp only [tput]
  split
  · rename_i e2; subst e2; simp only [Rel]; exact ⟨by rw [ev], fun h => by cases h⟩
  · exact hr u
theorem Wk.raw_sl (a : Option Addr) (cap e : Nat) : Wk (.raw (.slice a 0 cap)) (.sl e []) := ⟨rfl, fun c m cs h => by
  simp only [Rel] at h ⊢
  exact ⟨a, cap, h.1, Nat.zero_le _, by simp, .inl trivial⟩⟩
theorem awp_gen {P : Program} {N : Nat} {code : Code} {T : Nat → AV} {H : Heap} {n : Nat} {Q : AEx → (Nat → AV) → Heap → Nat → Prop} (Φ : Heap → Nat → Prop) (h0 : Φ H n) (h : ∀ H n, Φ H n → awp P N code T H n Q) : awp P N code T H n Q := h H n h0
end Go.Sx
namespace Go.Sx
open Go
theorem ACalls.finP {P : Program} {f : FuncId} {args : List AV} {H : Heap} {n : Nat} {K : ARes → Heap → Nat → Prop}
    (h : ACalls P f args H n fun res H1 n' => (∃ r r' H', res = .val r ∧ (∀ k, k < n → H' k = H1 k ∧ (H1 k = H k ∨ ∀ o, H1 k = some o → o.kl n)) ∧ (∀ k, n ≤ k → H' k = H k) ∧ Frz H1 n r r' ∧ K (.val r') H' n) ∨ ∃ p, res = .pan p ∧ K (.pan p) H1 n') : ACalls P f args H n K :=
  fun c w vs hs hr => (h c w vs hs hr).mono fun e w' ⟨res, c', H1, n', hd, hst, hm⟩ => by
    rcases hd with ⟨r, r', H', hres, hlow, hhigh, hfrz, hK⟩ | ⟨p, hres, hK⟩
    · subst hres
      refine ⟨.val r', c'.frz H1 n w', H', n, hK, Step.fin hs hst hlow hhigh, ?_⟩
      cases e with
      | returned v => exact Frz.rel hst.sim hfrz hm
      | panicked _ => exact hm.elim
      | outgrown => exact hm.elim
    · subst hres
      exact ⟨.pan p, c', H1, n', hK, hst, hm⟩
end Go.Sx
namespace Go.Proofs.YtifnhpmeoogedaaGreatDoor
open Go Go.Sx Go.Rt Go.Proofs
theorem c_order_outside (x lo hi : Int) (H : Heap) (n : Nat) : Ret Tryz.prog 48 [.int .i64 x, .int .i64 lo, .int .i64 hi] H n (.bool (bout x lo hi)) H n := by
  refine acalls_of_awp Tryz.func48 rfl Tryz.ntmps48 (congrArg Array.toList Tryz.results48) (by simp) ?_
  simp only [go_sem]
  refine awp_rq zs [0, 1, 2] ?_
  refine awp_rq zs [6] ?_
  refine awp_ret ?_
  try simp only [go_sem, seval]
  unfold bout; by_cases h : x < lo <;> simp [h]
theorem c_order_condition (s : List Fml) (hs : s.length ≤ 2000000) (c : CondE) (H : Heap) (n : Nat) : Ret Tryz.prog 50 [schAV s, condAV c] H n (.bool (condOK s.length c)) H n := by
  have hw : IntKind.i64.wrap ((s.length : Int) - 1) = (s.length : Int) - 1 := w64 (by omega) (by omega)
  refine Ret.fin ?_
  refine acalls_of_awp Tryz.func50 rfl Tryz.ntmps50 (congrArg Array.toList Tryz.results50) (by simp) ?_
  simp only [go_sem]
  refine awp_reg zs [2, 3] fun K hK => ?_
  try simp only [go_sem, seval, condAV, bys]
  refine hK _ _ _ ?_; clear hK K
  refine awp_reg zs [2, 3, 5] fun K hK => ?_
  try simp only [go_sem, seval]
  repeat refine peel ?_
  refine hK _ _ _ ?_; clear hK K
  refine awp_reg zs [4] fun K hK => ?_
  try simp only [go_sem, seval]
  repeat (first | (refine And.intro ?_ ?_; · first | (intro h1 h2 h3; rw [h1, h3]; rfl)) | refine peel ?_)
  refine callK_use Tryz.func48 rfl rfl rfl ((c_order_outside c.kind 1 6 _ _)) ?_
  try simp only [go_sem, seval, List.length_map, hw]
  repeat (first | (refine And.intro ?_ ?_; · first | (intro h1 h2 h3; rw [h1, h3]; rfl)) | refine peel ?_)
  refine callG_use Tryz.func48 rfl rfl rfl (fun _ => (c_order_outside c.fam 0 ((s.length : Int) - 1) _ _)) ?_
  try simp only [go_sem, seval, List.length_map]
  repeat (first | (refine And.intro ?_ ?_; · first | (intro h1 h2 h3; rw [h1, h3]; rfl)) | refine peel ?_)
  refine hK _ _ _ ?_; clear hK K
  refine awp_ret ?_
  try simp only [go_sem, seval]
  refine ⟨_, rfl, ?_, Frz.eq ?_ trivial⟩
  · intro k hk; have h0 : k ≠ n := by omega
    have h1 : ∀ j, k ≠ n + j := fun j => by omega
    simp [Heap.put, h0, h1]
  · congr 1; unfold condOK
    generalize bout c.kind 1 6 = b1; generalize bout c.fam 0 ((s.length : Int) - 1) = b2
    by_cases h1 : c.kind = 1 <;> by_cases h2 : c.kind = 2 <;> cases b1 <;> cases b2 <;> simp_all
theorem c_order_step (s : List Fml) (hs : s.length ≤ 2000000) (c : OpE) (H : Heap) (n : Nat) : Ret Tryz.prog 52 [schAV s, opAV c] H n (.bool (opOK s.length c)) H n := by
  have hw : IntKind.i64.wrap ((s.length : Int) - 1) = (s.length : Int) - 1 := w64 (by omega) (by omega)
  refine Ret.fin ?_
  refine acalls_of_awp Tryz.func52 rfl Tryz.ntmps52 (congrArg Array.toList Tryz.results52) (by simp) ?_
  simp only [go_sem]
  refine awp_reg zs [2, 3] fun K hK => ?_
  try simp only [go_sem, seval, opAV, bys]
  refine hK _ _ _ ?_; clear hK K
  refine awp_seq_k fun K1 hK1 => ?_
  refine awp_block ?_
  refine awp_seq_k fun K2 hK2 => ?_
  refine awp_reg zs [2, 3, 5] fun K hK => ?_
  try simp only [go_sem, seval]
  refine callK_use Tryz.func48 rfl rfl rfl ((c_order_outside c.kind 1 5 _ _)) ?_
  try simp only [go_sem, seval]
  refine hK _ _ _ ?_; clear hK K
  refine awp_cnd (fun hb => ?_) (fun hb => ?_)
  ·skip
   refine awp_skip ?_
   try simp only [go_sem, seval]
   refine hK2 _ _ _ ?_
   first | clear hK2 K2 | skip
   refine awp_cnd (fun hb => ?_) (fun hb => ?_)
   ·skip
    refine awp_reg zs [4] fun K hK => ?_
    try simp only [go_sem, seval]
    refine hK _ _ _ ?_; clear hK K
    refine awp_ret ?_
    try simp only [go_sem, seval]
    refine ⟨_, rfl, ?_, Frz.eq ?_ trivial⟩
    · intro k hk; have h0 : k ≠ n := by omega
      have h1 : ∀ j, k ≠ n + j := fun j => by omega
      simp [Heap.put, h0, h1]
    · congr 1; unfold opOK
      by_cases h5 : c.kind = 5 <;> by_cases hd : c.delta = 0 <;> by_cases h4 : c.kind = 4 <;> by_cases h1 : c.kind = 1 <;> simp_all
   ·skip
    refine awp_seq_k fun K3 hK3 => ?_
    refine awp_reg zs [3, 27] fun K hK => ?_
    try simp only [go_sem, seval, List.length_map]
    repeat refine peel ?_
    refine hK _ _ _ ?_; clear hK K
    refine awp_cnd (fun hb => ?_) (fun hb => ?_)
    ·skip
     refine awp_skip ?_
     try simp only [go_sem, seval]
     refine hK3 _ _ _ ?_
     first | clear hK3 K3 | skip
     refine awp_cnd (fun hb => ?_) (fun hb => ?_)
     ·skip
      refine awp_reg zs [4] fun K hK => ?_
      try simp only [go_sem, seval]
      refine hK _ _ _ ?_; clear hK K
      refine awp_ret ?_
      try simp only [go_sem, seval]
      refine ⟨_, rfl, ?_, Frz.eq ?_ trivial⟩
      · intro k hk; have h0 : k ≠ n := by omega
        have h1 : ∀ j, k ≠ n + j := fun j => by omega
        simp [Heap.put, h0, h1]
      · congr 1; unfold opOK
        by_cases h5 : c.kind = 5 <;> by_cases hd : c.delta = 0 <;> by_cases h4 : c.kind = 4 <;> by_cases h1 : c.kind = 1 <;> simp_all
     ·skip
      refine awp_skip ?_
      try simp only [go_sem, seval]
      refine hK1 _ _ _ ?_
      first | clear hK1 K1 | skip
      refine awp_reg zs [4] fun K hK => ?_
      try simp only [go_sem, seval]
      repeat refine peel ?_
      refine hK _ _ _ ?_; clear hK K
      refine awp_ret ?_
      try simp only [go_sem, seval]
      refine ⟨_, rfl, ?_, Frz.eq ?_ trivial⟩
      · intro k hk; have h0 : k ≠ n := by omega
        have h1 : ∀ j, k ≠ n + j := fun j => by omega
        simp [Heap.put, h0, h1]
      · congr 1; unfold opOK
        by_cases h5 : c.kind = 5 <;> by_cases hd : c.delta = 0 <;> by_cases h4 : c.kind = 4 <;> by_cases h1 : c.kind = 1 <;> simp_all
    ·skip
     refine awp_reg zs [3, 27] fun K hK => ?_
     try simp only [go_sem, seval]
     repeat refine peel ?_
     refine hK _ _ _ ?_; clear hK K
     refine awp_cnd (fun hb => ?_) (fun hb => ?_)
     ·skip
      refine awp_skip ?_
      try simp only [go_sem, seval]
      refine hK3 _ _ _ ?_
      first | clear hK3 K3 | skip
      refine awp_cnd (fun hb => ?_) (fun hb => ?_)
      ·skip
       refine awp_reg zs [4] fun K hK => ?_
       try simp only [go_sem, seval]
       refine hK _ _ _ ?_; clear hK K
       refine awp_ret ?_
       try simp only [go_sem, seval]
       refine ⟨_, rfl, ?_, Frz.eq ?_ trivial⟩
       · intro k hk; have h0 : k ≠ n := by omega
         have h1 : ∀ j, k ≠ n + j := fun j => by omega
         simp [Heap.put, h0, h1]
       · congr 1; unfold opOK
         by_cases h5 : c.kind = 5 <;> by_cases hd : c.delta = 0 <;> by_cases h4 : c.kind = 4 <;> by_cases h1 : c.kind = 1 <;> simp_all
      ·skip
       refine awp_skip ?_
       try simp only [go_sem, seval]
       refine hK1 _ _ _ ?_
       first | clear hK1 K1 | skip
       refine awp_reg zs [4] fun K hK => ?_
       try simp only [go_sem, seval]
       repeat refine peel ?_
       refine hK _ _ _ ?_; clear hK K
       refine awp_ret ?_
       try simp only [go_sem, seval]
       refine ⟨_, rfl, ?_, Frz.eq ?_ trivial⟩
       · intro k hk; have h0 : k ≠ n := by omega
         have h1 : ∀ j, k ≠ n + j := fun j => by omega
         simp [Heap.put, h0, h1]
       · congr 1; unfold opOK
         by_cases h5 : c.kind = 5 <;> by_cases hd : c.delta = 0 <;> by_cases h4 : c.kind = 4 <;> by_cases h1 : c.kind = 1 <;> simp_all
     ·skip
      refine awp_reg1 zs [3, 27] fun K hK => ?_
      try simp only [go_sem, seval, List.length_map]
      repeat refine peel ?_
      refine hK _ _ _ ?_; clear hK K
      try simp only [go_sem, seval]
      refine hK3 _ _ _ ?_
      first | clear hK3 K3 | skip
      refine awp_cnd (fun hb => ?_) (fun hb => ?_)
      ·skip
       refine awp_reg zs [4] fun K hK => ?_
       try simp only [go_sem, seval]
       refine hK _ _ _ ?_; clear hK K
       refine awp_ret ?_
       try simp only [go_sem, seval]
       refine ⟨_, rfl, ?_, Frz.eq ?_ trivial⟩
       · intro k hk; have h0 : k ≠ n := by omega
         have h1 : ∀ j, k ≠ n + j := fun j => by omega
         simp [Heap.put, h0, h1]
       · congr 1; unfold opOK
         by_cases h5 : c.kind = 5 <;> by_cases hd : c.delta = 0 <;> by_cases h4 : c.kind = 4 <;> by_cases h1 : c.kind = 1 <;> simp_all
      ·skip
       refine awp_skip ?_
       try simp only [go_sem, seval]
       refine hK1 _ _ _ ?_
       first | clear hK1 K1 | skip
       refine awp_reg zs [4] fun K hK => ?_
       try simp only [go_sem, seval]
       repeat refine peel ?_
       refine hK _ _ _ ?_; clear hK K
       refine awp_ret ?_
       try simp only [go_sem, seval]
       refine ⟨_, rfl, ?_, Frz.eq ?_ trivial⟩
       · intro k hk; have h0 : k ≠ n := by omega
         have h1 : ∀ j, k ≠ n + j := fun j => by omega
         simp [Heap.put, h0, h1]
       · congr 1; unfold opOK
         by_cases h5 : c.kind = 5 <;> by_cases hd : c.delta = 0 <;> by_cases h4 : c.kind = 4 <;> by_cases h1 : c.kind = 1 <;> simp_all
  ·skip
   refine awp_reg zs [3, 5] fun K hK => ?_
   try simp only [go_sem, seval, List.length_map, hw]
   refine callK_use Tryz.func48 rfl rfl rfl ((c_order_outside c.fam 0 ((s.length : Int) - 1) _ _)) ?_
   try simp only [go_sem, seval]
   refine hK _ _ _ ?_; clear hK K
   refine awp_cnd (fun hb => ?_) (fun hb => ?_)
   ·skip
    refine awp_skip ?_
    try simp only [go_sem, seval]
    refine hK2 _ _ _ ?_
    first | clear hK2 K2 | skip
    refine awp_cnd (fun hb => ?_) (fun hb => ?_)
    ·skip
     refine awp_reg zs [4] fun K hK => ?_
     try simp only [go_sem, seval]
     refine hK _ _ _ ?_; clear hK K
     refine awp_ret ?_
     try simp only [go_sem, seval]
     refine ⟨_, rfl, ?_, Frz.eq ?_ trivial⟩
     · intro k hk; have h0 : k ≠ n := by omega
       have h1 : ∀ j, k ≠ n + j := fun j => by omega
       simp [Heap.put, h0, h1]
     · congr 1; unfold opOK
       by_cases h5 : c.kind = 5 <;> by_cases hd : c.delta = 0 <;> by_cases h4 : c.kind = 4 <;> by_cases h1 : c.kind = 1 <;> simp_all
    ·skip
     refine awp_seq_k fun K4 hK4 => ?_
     refine awp_reg zs [3, 27] fun K hK => ?_
     try simp only [go_sem, seval, List.length_map]
     repeat refine peel ?_
     refine hK _ _ _ ?_; clear hK K
     refine awp_cnd (fun hb => ?_) (fun hb => ?_)
     ·skip
      refine awp_skip ?_
      try simp only [go_sem, seval]
      refine hK4 _ _ _ ?_
      first | clear hK4 K4 | skip
      refine awp_cnd (fun hb => ?_) (fun hb => ?_)
      ·skip
       refine awp_reg zs [4] fun K hK => ?_
       try simp only [go_sem, seval]
       refine hK _ _ _ ?_; clear hK K
       refine awp_ret ?_
       try simp only [go_sem, seval]
       refine ⟨_, rfl, ?_, Frz.eq ?_ trivial⟩
       · intro k hk; have h0 : k ≠ n := by omega
         have h1 : ∀ j, k ≠ n + j := fun j => by omega
         simp [Heap.put, h0, h1]
       · congr 1; unfold opOK
         by_cases h5 : c.kind = 5 <;> by_cases hd : c.delta = 0 <;> by_cases h4 : c.kind = 4 <;> by_cases h1 : c.kind = 1 <;> simp_all
      ·skip
       refine awp_skip ?_
       try simp only [go_sem, seval]
       refine hK1 _ _ _ ?_
       first | clear hK1 K1 | skip
       refine awp_reg zs [4] fun K hK => ?_
       try simp only [go_sem, seval]
       repeat refine peel ?_
       refine hK _ _ _ ?_; clear hK K
       refine awp_ret ?_
       try simp only [go_sem, seval]
       refine ⟨_, rfl, ?_, Frz.eq ?_ trivial⟩
       · intro k hk; have h0 : k ≠ n := by omega
         have h1 : ∀ j, k ≠ n + j := fun j => by omega
         simp [Heap.put, h0, h1]
       · congr 1; unfold opOK
         by_cases h5 : c.kind = 5 <;> by_cases hd : c.delta = 0 <;> by_cases h4 : c.kind = 4 <;> by_cases h1 : c.kind = 1 <;> simp_all
     ·skip
      refine awp_reg zs [3, 27] fun K hK => ?_
      try simp only [go_sem, seval]
      repeat refine peel ?_
      refine hK _ _ _ ?_; clear hK K
      refine awp_cnd (fun hb => ?_) (fun hb => ?_)
      ·skip
       refine awp_skip ?_
       try simp only [go_sem, seval]
       refine hK4 _ _ _ ?_
       first | clear hK4 K4 | skip
       refine awp_cnd (fun hb => ?_) (fun hb => ?_)
       ·skip
        refine awp_reg zs [4] fun K hK => ?_
        try simp only [go_sem, seval]
        refine hK _ _ _ ?_; clear hK K
        refine awp_ret ?_
        try simp only [go_sem, seval]
        refine ⟨_, rfl, ?_, Frz.eq ?_ trivial⟩
        · intro k hk; have h0 : k ≠ n := by omega
          have h1 : ∀ j, k ≠ n + j := fun j => by omega
          simp [Heap.put, h0, h1]
        · congr 1; unfold opOK
          by_cases h5 : c.kind = 5 <;> by_cases hd : c.delta = 0 <;> by_cases h4 : c.kind = 4 <;> by_cases h1 : c.kind = 1 <;> simp_all
       ·skip
        refine awp_skip ?_
        try simp only [go_sem, seval]
        refine hK1 _ _ _ ?_
        first | clear hK1 K1 | skip
        refine awp_reg zs [4] fun K hK => ?_
        try simp only [go_sem, seval]
        repeat refine peel ?_
        refine hK _ _ _ ?_; clear hK K
        refine awp_ret ?_
        try simp only [go_sem, seval]
        refine ⟨_, rfl, ?_, Frz.eq ?_ trivial⟩
        · intro k hk; have h0 : k ≠ n := by omega
          have h1 : ∀ j, k ≠ n + j := fun j => by omega
          simp [Heap.put, h0, h1]
        · congr 1; unfold opOK
          by_cases h5 : c.kind = 5 <;> by_cases hd : c.delta = 0 <;> by_cases h4 : c.kind = 4 <;> by_cases h1 : c.kind = 1 <;> simp_all
      ·skip
       refine awp_reg1 zs [3, 27] fun K hK => ?_
       try simp only [go_sem, seval, List.length_map]
       repeat refine peel ?_
       refine hK _ _ _ ?_; clear hK K
       try simp only [go_sem, seval]
       refine hK4 _ _ _ ?_
       first | clear hK4 K4 | skip
       refine awp_cnd (fun hb => ?_) (fun hb => ?_)
       ·skip
        refine awp_reg zs [4] fun K hK => ?_
        try simp only [go_sem, seval]
        refine hK _ _ _ ?_; clear hK K
        refine awp_ret ?_
        try simp only [go_sem, seval]
        refine ⟨_, rfl, ?_, Frz.eq ?_ trivial⟩
        · intro k hk; have h0 : k ≠ n := by omega
          have h1 : ∀ j, k ≠ n + j := fun j => by omega
          simp [Heap.put, h0, h1]
        · congr 1; unfold opOK
          by_cases h5 : c.kind = 5 <;> by_cases hd : c.delta = 0 <;> by_cases h4 : c.kind = 4 <;> by_cases h1 : c.kind = 1 <;> simp_all
       ·skip
        refine awp_skip ?_
        try simp only [go_sem, seval]
        refine hK1 _ _ _ ?_
        first | clear hK1 K1 | skip
        refine awp_reg zs [4] fun K hK => ?_
        try simp only [go_sem, seval]
        repeat refine peel ?_
        refine hK _ _ _ ?_; clear hK K
        refine awp_ret ?_
        try simp only [go_sem, seval]
        refine ⟨_, rfl, ?_, Frz.eq ?_ trivial⟩
        · intro k hk; have h0 : k ≠ n := by omega
          have h1 : ∀ j, k ≠ n + j := fun j => by omega
          simp [Heap.put, h0, h1]
        · congr 1; unfold opOK
          by_cases h5 : c.kind = 5 <;> by_cases hd : c.delta = 0 <;> by_cases h4 : c.kind = 4 <;> by_cases h1 : c.kind = 1 <;> simp_all
   ·skip
    refine awp_reg zs [3, 5] fun K hK => ?_
    try simp only [go_sem, seval, List.length_map]
    refine hK _ _ _ ?_; clear hK K
    refine awp_cnd (fun hb => ?_) (fun hb => ?_)
    ·skip
     refine awp_skip ?_
     try simp only [go_sem, seval]
     refine hK2 _ _ _ ?_
     first | clear hK2 K2 | skip
     refine awp_cnd (fun hb => ?_) (fun hb => ?_)
     ·skip
      refine awp_reg zs [4] fun K hK => ?_
      try simp only [go_sem, seval]
      refine hK _ _ _ ?_; clear hK K
      refine awp_ret ?_
      try simp only [go_sem, seval]
      refine ⟨_, rfl, ?_, Frz.eq ?_ trivial⟩
      · intro k hk; have h0 : k ≠ n := by omega
        have h1 : ∀ j, k ≠ n + j := fun j => by omega
        simp [Heap.put, h0, h1]
      · congr 1; unfold opOK
        by_cases h5 : c.kind = 5 <;> by_cases hd : c.delta = 0 <;> by_cases h4 : c.kind = 4 <;> by_cases h1 : c.kind = 1 <;> simp_all
     ·skip
      refine awp_seq_k fun K5 hK5 => ?_
      refine awp_reg zs [3, 27] fun K hK => ?_
      try simp only [go_sem, seval, List.length_map]
      repeat refine peel ?_
      refine hK _ _ _ ?_; clear hK K
      refine awp_cnd (fun hb => ?_) (fun hb => ?_)
      ·skip
       refine awp_skip ?_
       try simp only [go_sem, seval]
       refine hK5 _ _ _ ?_
       first | clear hK5 K5 | skip
       refine awp_cnd (fun hb => ?_) (fun hb => ?_)
       ·skip
        refine awp_reg zs [4] fun K hK => ?_
        try simp only [go_sem, seval]
        refine hK _ _ _ ?_; clear hK K
        refine awp_ret ?_
        try simp only [go_sem, seval]
        refine ⟨_, rfl, ?_, Frz.eq ?_ trivial⟩
        · intro k hk; have h0 : k ≠ n := by omega
          have h1 : ∀ j, k ≠ n + j := fun j => by omega
          simp [Heap.put, h0, h1]
        · congr 1; unfold opOK
          by_cases h5 : c.kind = 5 <;> by_cases hd : c.delta = 0 <;> by_cases h4 : c.kind = 4 <;> by_cases h1 : c.kind = 1 <;> simp_all
       ·skip
        refine awp_skip ?_
        try simp only [go_sem, seval]
        refine hK1 _ _ _ ?_
        first | clear hK1 K1 | skip
        refine awp_reg zs [4] fun K hK => ?_
        try simp only [go_sem, seval]
        repeat refine peel ?_
        refine hK _ _ _ ?_; clear hK K
        refine awp_ret ?_
        try simp only [go_sem, seval]
        refine ⟨_, rfl, ?_, Frz.eq ?_ trivial⟩
        · intro k hk; have h0 : k ≠ n := by omega
          have h1 : ∀ j, k ≠ n + j := fun j => by omega
          simp [Heap.put, h0, h1]
        · congr 1; unfold opOK
          by_cases h5 : c.kind = 5 <;> by_cases hd : c.delta = 0 <;> by_cases h4 : c.kind = 4 <;> by_cases h1 : c.kind = 1 <;> simp_all
      ·skip
       refine awp_reg zs [3, 27] fun K hK => ?_
       try simp only [go_sem, seval]
       repeat refine peel ?_
       refine hK _ _ _ ?_; clear hK K
       refine awp_cnd (fun hb => ?_) (fun hb => ?_)
       ·skip
        refine awp_skip ?_
        try simp only [go_sem, seval]
        refine hK5 _ _ _ ?_
        first | clear hK5 K5 | skip
        refine awp_cnd (fun hb => ?_) (fun hb => ?_)
        ·skip
         refine awp_reg zs [4] fun K hK => ?_
         try simp only [go_sem, seval]
         refine hK _ _ _ ?_; clear hK K
         refine awp_ret ?_
         try simp only [go_sem, seval]
         refine ⟨_, rfl, ?_, Frz.eq ?_ trivial⟩
         · intro k hk; have h0 : k ≠ n := by omega
           have h1 : ∀ j, k ≠ n + j := fun j => by omega
           simp [Heap.put, h0, h1]
         · congr 1; unfold opOK
           by_cases h5 : c.kind = 5 <;> by_cases hd : c.delta = 0 <;> by_cases h4 : c.kind = 4 <;> by_cases h1 : c.kind = 1 <;> simp_all
        ·skip
         refine awp_skip ?_
         try simp only [go_sem, seval]
         refine hK1 _ _ _ ?_
         first | clear hK1 K1 | skip
         refine awp_reg zs [4] fun K hK => ?_
         try simp only [go_sem, seval]
         repeat refine peel ?_
         refine hK _ _ _ ?_; clear hK K
         refine awp_ret ?_
         try simp only [go_sem, seval]
         refine ⟨_, rfl, ?_, Frz.eq ?_ trivial⟩
         · intro k hk; have h0 : k ≠ n := by omega
           have h1 : ∀ j, k ≠ n + j := fun j => by omega
           simp [Heap.put, h0, h1]
         · congr 1; unfold opOK
           by_cases h5 : c.kind = 5 <;> by_cases hd : c.delta = 0 <;> by_cases h4 : c.kind = 4 <;> by_cases h1 : c.kind = 1 <;> simp_all
       ·skip
        refine awp_reg1 zs [3, 27] fun K hK => ?_
        try simp only [go_sem, seval, List.length_map]
        repeat refine peel ?_
        refine hK _ _ _ ?_; clear hK K
        try simp only [go_sem, seval]
        refine hK5 _ _ _ ?_
        first | clear hK5 K5 | skip
        refine awp_cnd (fun hb => ?_) (fun hb => ?_)
        ·skip
         refine awp_reg zs [4] fun K hK => ?_
         try simp only [go_sem, seval]
         refine hK _ _ _ ?_; clear hK K
         refine awp_ret ?_
         try simp only [go_sem, seval]
         refine ⟨_, rfl, ?_, Frz.eq ?_ trivial⟩
         · intro k hk; have h0 : k ≠ n := by omega
           have h1 : ∀ j, k ≠ n + j := fun j => by omega
           simp [Heap.put, h0, h1]
         · congr 1; unfold opOK
           by_cases h5 : c.kind = 5 <;> by_cases hd : c.delta = 0 <;> by_cases h4 : c.kind = 4 <;> by_cases h1 : c.kind = 1 <;> simp_all
        ·skip
         refine awp_skip ?_
         try simp only [go_sem, seval]
         refine hK1 _ _ _ ?_
         first | clear hK1 K1 | skip
         refine awp_reg zs [4] fun K hK => ?_
         try simp only [go_sem, seval]
         repeat refine peel ?_
         refine hK _ _ _ ?_; clear hK K
         refine awp_ret ?_
         try simp only [go_sem, seval]
         refine ⟨_, rfl, ?_, Frz.eq ?_ trivial⟩
         · intro k hk; have h0 : k ≠ n := by omega
           have h1 : ∀ j, k ≠ n + j := fun j => by omega
           simp [Heap.put, h0, h1]
         · congr 1; unfold opOK
           by_cases h5 : c.kind = 5 <;> by_cases hd : c.delta = 0 <;> by_cases h4 : c.kind = 4 <;> by_cases h1 : c.kind = 1 <;> simp_all
    ·skip
     refine awp_reg zs [3, 5] fun K hK => ?_
     try simp only [go_sem, seval]
     refine callK_use Tryz.func48 rfl rfl rfl ((c_order_outside c.ts 0 1099511627776 _ _)) ?_
     try simp only [go_sem, seval]
     refine hK _ _ _ ?_; clear hK K
     refine awp_cnd (fun hb => ?_) (fun hb => ?_)
     ·skip
      refine awp_skip ?_
      try simp only [go_sem, seval]
      refine hK2 _ _ _ ?_
      first | clear hK2 K2 | skip
      refine awp_cnd (fun hb => ?_) (fun hb => ?_)
      ·skip
       refine awp_reg zs [4] fun K hK => ?_
       try simp only [go_sem, seval]
       refine hK _ _ _ ?_; clear hK K
       refine awp_ret ?_
       try simp only [go_sem, seval]
       refine ⟨_, rfl, ?_, Frz.eq ?_ trivial⟩
       · intro k hk; have h0 : k ≠ n := by omega
         have h1 : ∀ j, k ≠ n + j := fun j => by omega
         simp [Heap.put, h0, h1]
       · congr 1; unfold opOK
         by_cases h5 : c.kind = 5 <;> by_cases hd : c.delta = 0 <;> by_cases h4 : c.kind = 4 <;> by_cases h1 : c.kind = 1 <;> simp_all
      ·skip
       refine awp_seq_k fun K6 hK6 => ?_
       refine awp_reg zs [3, 27] fun K hK => ?_
       try simp only [go_sem, seval, List.length_map]
       repeat refine peel ?_
       refine hK _ _ _ ?_; clear hK K
       refine awp_cnd (fun hb => ?_) (fun hb => ?_)
       ·skip
        refine awp_skip ?_
        try simp only [go_sem, seval]
        refine hK6 _ _ _ ?_
        first | clear hK6 K6 | skip
        refine awp_cnd (fun hb => ?_) (fun hb => ?_)
        ·skip
         refine awp_reg zs [4] fun K hK => ?_
         try simp only [go_sem, seval]
         refine hK _ _ _ ?_; clear hK K
         refine awp_ret ?_
         try simp only [go_sem, seval]
         refine ⟨_, rfl, ?_, Frz.eq ?_ trivial⟩
         · intro k hk; have h0 : k ≠ n := by omega
           have h1 : ∀ j, k ≠ n + j := fun j => by omega
           simp [Heap.put, h0, h1]
         · congr 1; unfold opOK
           by_cases h5 : c.kind = 5 <;> by_cases hd : c.delta = 0 <;> by_cases h4 : c.kind = 4 <;> by_cases h1 : c.kind = 1 <;> simp_all
        ·skip
         refine awp_skip ?_
         try simp only [go_sem, seval]
         refine hK1 _ _ _ ?_
         first | clear hK1 K1 | skip
         refine awp_reg zs [4] fun K hK => ?_
         try simp only [go_sem, seval]
         repeat refine peel ?_
         refine hK _ _ _ ?_; clear hK K
         refine awp_ret ?_
         try simp only [go_sem, seval]
         refine ⟨_, rfl, ?_, Frz.eq ?_ trivial⟩
         · intro k hk; have h0 : k ≠ n := by omega
           have h1 : ∀ j, k ≠ n + j := fun j => by omega
           simp [Heap.put, h0, h1]
         · congr 1; unfold opOK
           by_cases h5 : c.kind = 5 <;> by_cases hd : c.delta = 0 <;> by_cases h4 : c.kind = 4 <;> by_cases h1 : c.kind = 1 <;> simp_all
       ·skip
        refine awp_reg zs [3, 27] fun K hK => ?_
        try simp only [go_sem, seval]
        repeat refine peel ?_
        refine hK _ _ _ ?_; clear hK K
        refine awp_cnd (fun hb => ?_) (fun hb => ?_)
        ·skip
         refine awp_skip ?_
         try simp only [go_sem, seval]
         refine hK6 _ _ _ ?_
         first | clear hK6 K6 | skip
         refine awp_cnd (fun hb => ?_) (fun hb => ?_)
         ·skip
          refine awp_reg zs [4] fun K hK => ?_
          try simp only [go_sem, seval]
          refine hK _ _ _ ?_; clear hK K
          refine awp_ret ?_
          try simp only [go_sem, seval]
          refine ⟨_, rfl, ?_, Frz.eq ?_ trivial⟩
          · intro k hk; have h0 : k ≠ n := by omega
            have h1 : ∀ j, k ≠ n + j := fun j => by omega
            simp [Heap.put, h0, h1]
          · congr 1; unfold opOK
            by_cases h5 : c.kind = 5 <;> by_cases hd : c.delta = 0 <;> by_cases h4 : c.kind = 4 <;> by_cases h1 : c.kind = 1 <;> simp_all
         ·skip
          refine awp_skip ?_
          try simp only [go_sem, seval]
          refine hK1 _ _ _ ?_
          first | clear hK1 K1 | skip
          refine awp_reg zs [4] fun K hK => ?_
          try simp only [go_sem, seval]
          repeat refine peel ?_
          refine hK _ _ _ ?_; clear hK K
          refine awp_ret ?_
          try simp only [go_sem, seval]
          refine ⟨_, rfl, ?_, Frz.eq ?_ trivial⟩
          · intro k hk; have h0 : k ≠ n := by omega
            have h1 : ∀ j, k ≠ n + j := fun j => by omega
            simp [Heap.put, h0, h1]
          · congr 1; unfold opOK
            by_cases h5 : c.kind = 5 <;> by_cases hd : c.delta = 0 <;> by_cases h4 : c.kind = 4 <;> by_cases h1 : c.kind = 1 <;> simp_all
        ·skip
         refine awp_reg1 zs [3, 27] fun K hK => ?_
         try simp only [go_sem, seval, List.length_map]
         repeat refine peel ?_
         refine hK _ _ _ ?_; clear hK K
         try simp only [go_sem, seval]
         refine hK6 _ _ _ ?_
         first | clear hK6 K6 | skip
         refine awp_cnd (fun hb => ?_) (fun hb => ?_)
         ·skip
          refine awp_reg zs [4] fun K hK => ?_
          try simp only [go_sem, seval]
          refine hK _ _ _ ?_; clear hK K
          refine awp_ret ?_
          try simp only [go_sem, seval]
          refine ⟨_, rfl, ?_, Frz.eq ?_ trivial⟩
          · intro k hk; have h0 : k ≠ n := by omega
            have h1 : ∀ j, k ≠ n + j := fun j => by omega
            simp [Heap.put, h0, h1]
          · congr 1; unfold opOK
            by_cases h5 : c.kind = 5 <;> by_cases hd : c.delta = 0 <;> by_cases h4 : c.kind = 4 <;> by_cases h1 : c.kind = 1 <;> simp_all
         ·skip
          refine awp_skip ?_
          try simp only [go_sem, seval]
          refine hK1 _ _ _ ?_
          first | clear hK1 K1 | skip
          refine awp_reg zs [4] fun K hK => ?_
          try simp only [go_sem, seval]
          repeat refine peel ?_
          refine hK _ _ _ ?_; clear hK K
          refine awp_ret ?_
          try simp only [go_sem, seval]
          refine ⟨_, rfl, ?_, Frz.eq ?_ trivial⟩
          · intro k hk; have h0 : k ≠ n := by omega
            have h1 : ∀ j, k ≠ n + j := fun j => by omega
            simp [Heap.put, h0, h1]
          · congr 1; unfold opOK
            by_cases h5 : c.kind = 5 <;> by_cases hd : c.delta = 0 <;> by_cases h4 : c.kind = 4 <;> by_cases h1 : c.kind = 1 <;> simp_all
     ·skip
      refine awp_reg1 zs [3, 5] fun K hK => ?_
      try simp only [go_sem, seval, List.length_map]
      refine hK _ _ _ ?_; clear hK K
      try simp only [go_sem, seval]
      refine hK2 _ _ _ ?_
      first | clear hK2 K2 | skip
      refine awp_cnd (fun hb => ?_) (fun hb => ?_)
      ·skip
       refine awp_reg zs [4] fun K hK => ?_
       try simp only [go_sem, seval]
       refine hK _ _ _ ?_; clear hK K
       refine awp_ret ?_
       try simp only [go_sem, seval]
       refine ⟨_, rfl, ?_, Frz.eq ?_ trivial⟩
       · intro k hk; have h0 : k ≠ n := by omega
         have h1 : ∀ j, k ≠ n + j := fun j => by omega
         simp [Heap.put, h0, h1]
       · congr 1; unfold opOK
         by_cases h5 : c.kind = 5 <;> by_cases hd : c.delta = 0 <;> by_cases h4 : c.kind = 4 <;> by_cases h1 : c.kind = 1 <;> simp_all
      ·skip
       refine awp_seq_k fun K7 hK7 => ?_
       refine awp_reg zs [3, 27] fun K hK => ?_
       try simp only [go_sem, seval, List.length_map]
       repeat refine peel ?_
       refine hK _ _ _ ?_; clear hK K
       refine awp_cnd (fun hb => ?_) (fun hb => ?_)
       ·skip
        refine awp_skip ?_
        try simp only [go_sem, seval]
        refine hK7 _ _ _ ?_
        first | clear hK7 K7 | skip
        refine awp_cnd (fun hb => ?_) (fun hb => ?_)
        ·skip
         refine awp_reg zs [4] fun K hK => ?_
         try simp only [go_sem, seval]
         refine hK _ _ _ ?_; clear hK K
         refine awp_ret ?_
         try simp only [go_sem, seval]
         refine ⟨_, rfl, ?_, Frz.eq ?_ trivial⟩
         · intro k hk; have h0 : k ≠ n := by omega
           have h1 : ∀ j, k ≠ n + j := fun j => by omega
           simp [Heap.put, h0, h1]
         · congr 1; unfold opOK
           by_cases h5 : c.kind = 5 <;> by_cases hd : c.delta = 0 <;> by_cases h4 : c.kind = 4 <;> by_cases h1 : c.kind = 1 <;> simp_all
        ·skip
         refine awp_skip ?_
         try simp only [go_sem, seval]
         refine hK1 _ _ _ ?_
         first | clear hK1 K1 | skip
         refine awp_reg zs [4] fun K hK => ?_
         try simp only [go_sem, seval]
         repeat refine peel ?_
         refine hK _ _ _ ?_; clear hK K
         refine awp_ret ?_
         try simp only [go_sem, seval]
         refine ⟨_, rfl, ?_, Frz.eq ?_ trivial⟩
         · intro k hk; have h0 : k ≠ n := by omega
           have h1 : ∀ j, k ≠ n + j := fun j => by omega
           simp [Heap.put, h0, h1]
         · congr 1; unfold opOK
           by_cases h5 : c.kind = 5 <;> by_cases hd : c.delta = 0 <;> by_cases h4 : c.kind = 4 <;> by_cases h1 : c.kind = 1 <;> simp_all
       ·skip
        refine awp_reg zs [3, 27] fun K hK => ?_
        try simp only [go_sem, seval]
        repeat refine peel ?_
        refine hK _ _ _ ?_; clear hK K
        refine awp_cnd (fun hb => ?_) (fun hb => ?_)
        ·skip
         refine awp_skip ?_
         try simp only [go_sem, seval]
         refine hK7 _ _ _ ?_
         first | clear hK7 K7 | skip
         refine awp_cnd (fun hb => ?_) (fun hb => ?_)
         ·skip
          refine awp_reg zs [4] fun K hK => ?_
          try simp only [go_sem, seval]
          refine hK _ _ _ ?_; clear hK K
          refine awp_ret ?_
          try simp only [go_sem, seval]
          refine ⟨_, rfl, ?_, Frz.eq ?_ trivial⟩
          · intro k hk; have h0 : k ≠ n := by omega
            have h1 : ∀ j, k ≠ n + j := fun j => by omega
            simp [Heap.put, h0, h1]
          · congr 1; unfold opOK
            by_cases h5 : c.kind = 5 <;> by_cases hd : c.delta = 0 <;> by_cases h4 : c.kind = 4 <;> by_cases h1 : c.kind = 1 <;> simp_all
         ·skip
          refine awp_skip ?_
          try simp only [go_sem, seval]
          refine hK1 _ _ _ ?_
          first | clear hK1 K1 | skip
          refine awp_reg zs [4] fun K hK => ?_
          try simp only [go_sem, seval]
          repeat refine peel ?_
          refine hK _ _ _ ?_; clear hK K
          refine awp_ret ?_
          try simp only [go_sem, seval]
          refine ⟨_, rfl, ?_, Frz.eq ?_ trivial⟩
          · intro k hk; have h0 : k ≠ n := by omega
            have h1 : ∀ j, k ≠ n + j := fun j => by omega
            simp [Heap.put, h0, h1]
          · congr 1; unfold opOK
            by_cases h5 : c.kind = 5 <;> by_cases hd : c.delta = 0 <;> by_cases h4 : c.kind = 4 <;> by_cases h1 : c.kind = 1 <;> simp_all
        ·skip
         refine awp_reg1 zs [3, 27] fun K hK => ?_
         try simp only [go_sem, seval, List.length_map]
         repeat refine peel ?_
         refine hK _ _ _ ?_; clear hK K
         try simp only [go_sem, seval]
         refine hK7 _ _ _ ?_
         first | clear hK7 K7 | skip
         refine awp_cnd (fun hb => ?_) (fun hb => ?_)
         ·skip
          refine awp_reg zs [4] fun K hK => ?_
          try simp only [go_sem, seval]
          refine hK _ _ _ ?_; clear hK K
          refine awp_ret ?_
          try simp only [go_sem, seval]
          refine ⟨_, rfl, ?_, Frz.eq ?_ trivial⟩
          · intro k hk; have h0 : k ≠ n := by omega
            have h1 : ∀ j, k ≠ n + j := fun j => by omega
            simp [Heap.put, h0, h1]
          · congr 1; unfold opOK
            by_cases h5 : c.kind = 5 <;> by_cases hd : c.delta = 0 <;> by_cases h4 : c.kind = 4 <;> by_cases h1 : c.kind = 1 <;> simp_all
         ·skip
          refine awp_skip ?_
          try simp only [go_sem, seval]
          refine hK1 _ _ _ ?_
          first | clear hK1 K1 | skip
          refine awp_reg zs [4] fun K hK => ?_
          try simp only [go_sem, seval]
          repeat refine peel ?_
          refine hK _ _ _ ?_; clear hK K
          refine awp_ret ?_
          try simp only [go_sem, seval]
          refine ⟨_, rfl, ?_, Frz.eq ?_ trivial⟩
          · intro k hk; have h0 : k ≠ n := by omega
            have h1 : ∀ j, k ≠ n + j := fun j => by omega
            simp [Heap.put, h0, h1]
          · congr 1; unfold opOK
            by_cases h5 : c.kind = 5 <;> by_cases hd : c.delta = 0 <;> by_cases h4 : c.kind = 4 <;> by_cases h1 : c.kind = 1 <;> simp_all
end Go.Proofs.YtifnhpmeoogedaaGreatDoor