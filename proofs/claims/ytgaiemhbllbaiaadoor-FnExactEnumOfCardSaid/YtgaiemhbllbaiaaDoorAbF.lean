/- The closed facts on the program's tables of types. No condition. MADE BY A PROGRAM (facts.py). -/
import Derived.Test.YtgaiemhbllbaiaaDoorLB
import Derived.Test.YtgaiemhbllbaiaaDoorRows
set_option linter.unusedSimpArgs false
set_option linter.unusedVariables false
namespace Go.Proofs.YtgaiemhbllbaiaaDoor
open Go Go.RowKit
theorem agO_2 : aggO Tryd.prog 2 = some false := by kernel_rfl
theorem szO_2 : szO Tryd.prog 2 = some 1 := by kernel_rfl
theorem zrX_2 : zrX Tryd.prog 2 = some [.v (.int .i64 0)] := by kernel_rfl
theorem zrO_2 : zrO Tryd.prog 2 = some [.v (.int .i64 0)] := by kernel_rfl
theorem kdT_2 : kdT Tryd.prog 2 = some 1 := by kernel_rfl
theorem knO_2 : knO Tryd.prog 2 = true := by kernel_rfl
theorem inO_2 : inO Tryd.prog 2 = some .i64 := by kernel_rfl
theorem agO_3 : aggO Tryd.prog 3 = some false := by kernel_rfl
theorem szO_3 : szO Tryd.prog 3 = some 1 := by kernel_rfl
theorem zrX_3 : zrX Tryd.prog 3 = some [.v (.int .i64 0)] := by kernel_rfl
theorem zrO_3 : zrO Tryd.prog 3 = some [.v (.int .i64 0)] := by kernel_rfl
theorem kdT_3 : kdT Tryd.prog 3 = some 1 := by kernel_rfl
theorem knO_3 : knO Tryd.prog 3 = true := by kernel_rfl
theorem inO_3 : inO Tryd.prog 3 = some .i64 := by kernel_rfl
theorem agO_4 : aggO Tryd.prog 4 = some false := by kernel_rfl
theorem szO_4 : szO Tryd.prog 4 = some 1 := by kernel_rfl
theorem zrX_4 : zrX Tryd.prog 4 = some [.v (.bool false)] := by kernel_rfl
theorem zrO_4 : zrO Tryd.prog 4 = some [.v (.bool false)] := by kernel_rfl
theorem kdT_4 : kdT Tryd.prog 4 = some 0 := by kernel_rfl
theorem knO_4 : knO Tryd.prog 4 = true := by kernel_rfl
theorem agO_5 : aggO Tryd.prog 5 = some false := by kernel_rfl
theorem szO_5 : szO Tryd.prog 5 = some 1 := by kernel_rfl
theorem zrX_5 : zrX Tryd.prog 5 = some [.v (.int .u8 0)] := by kernel_rfl
theorem zrO_5 : zrO Tryd.prog 5 = some [.v (.int .u8 0)] := by kernel_rfl
theorem kdT_5 : kdT Tryd.prog 5 = some 1 := by kernel_rfl
theorem knO_5 : knO Tryd.prog 5 = true := by kernel_rfl
theorem inO_5 : inO Tryd.prog 5 = some .u8 := by kernel_rfl
theorem agO_6 : aggO Tryd.prog 6 = some false := by kernel_rfl
theorem szO_6 : szO Tryd.prog 6 = some 1 := by kernel_rfl
theorem zrX_6 : zrX Tryd.prog 6 = some [.v (.int .u8 0)] := by kernel_rfl
theorem zrO_6 : zrO Tryd.prog 6 = some [.v (.int .u8 0)] := by kernel_rfl
theorem kdT_6 : kdT Tryd.prog 6 = some 1 := by kernel_rfl
theorem knO_6 : knO Tryd.prog 6 = true := by kernel_rfl
theorem inO_6 : inO Tryd.prog 6 = some .u8 := by kernel_rfl
theorem agO_7 : aggO Tryd.prog 7 = some true := by kernel_rfl
theorem szO_7 : szO Tryd.prog 7 = some 4 := by kernel_rfl
theorem zrX_7 : zrX Tryd.prog 7 = some [.v (.int .i64 0), .v (.int .i64 0), .v (.bool false), .v (.int .u8 0)] := by kernel_rfl
theorem zrO_7 : zrO Tryd.prog 7 = some [.v (.int .i64 0), .v (.int .i64 0), .v (.bool false), .v (.int .u8 0)] := by kernel_rfl
theorem plO_7 : plO Tryd.prog 7 = some [(0, 1), (1, 1), (2, 1), (3, 1)] := by kernel_rfl
theorem fdO_7_0 : fdO Tryd.prog 7 0 = some (0, 1) := by kernel_rfl
theorem fdO_7_1 : fdO Tryd.prog 7 1 = some (1, 1) := by kernel_rfl
theorem fdO_7_2 : fdO Tryd.prog 7 2 = some (2, 1) := by kernel_rfl
theorem fdO_7_3 : fdO Tryd.prog 7 3 = some (3, 1) := by kernel_rfl
theorem knO_7 : knO Tryd.prog 7 = true := by kernel_rfl
theorem agO_8 : aggO Tryd.prog 8 = some true := by kernel_rfl
theorem szO_8 : szO Tryd.prog 8 = some 4 := by kernel_rfl
theorem zrX_8 : zrX Tryd.prog 8 = some [.v (.int .i64 0), .v (.int .i64 0), .v (.bool false), .v (.int .u8 0)] := by kernel_rfl
theorem zrO_8 : zrO Tryd.prog 8 = some [.v (.int .i64 0), .v (.int .i64 0), .v (.bool false), .v (.int .u8 0)] := by kernel_rfl
theorem plO_8 : plO Tryd.prog 8 = some [(0, 1), (1, 1), (2, 1), (3, 1)] := by kernel_rfl
theorem fdO_8_0 : fdO Tryd.prog 8 0 = some (0, 1) := by kernel_rfl
theorem fdO_8_1 : fdO Tryd.prog 8 1 = some (1, 1) := by kernel_rfl
theorem fdO_8_2 : fdO Tryd.prog 8 2 = some (2, 1) := by kernel_rfl
theorem fdO_8_3 : fdO Tryd.prog 8 3 = some (3, 1) := by kernel_rfl
theorem knO_8 : knO Tryd.prog 8 = true := by kernel_rfl
theorem agO_9 : aggO Tryd.prog 9 = some false := by kernel_rfl
theorem szO_9 : szO Tryd.prog 9 = some 1 := by kernel_rfl
theorem zrX_9 : zrX Tryd.prog 9 = some [.v (.string ByteArray.empty)] := by kernel_rfl
theorem zrO_9 : zrO Tryd.prog 9 = some [.v (.string ByteArray.empty)] := by kernel_rfl
theorem slO_9 : slO Tryd.prog 9 = some none := by kernel_rfl
theorem stO_9 : stO Tryd.prog 9 = true := by kernel_rfl
theorem kdT_9 : kdT Tryd.prog 9 = some 2 := by kernel_rfl
theorem knO_9 : knO Tryd.prog 9 = true := by kernel_rfl
theorem agO_10 : aggO Tryd.prog 10 = some false := by kernel_rfl
theorem szO_10 : szO Tryd.prog 10 = some 1 := by kernel_rfl
theorem zrX_10 : zrX Tryd.prog 10 = some [.v (.string ByteArray.empty)] := by kernel_rfl
theorem zrO_10 : zrO Tryd.prog 10 = some [.v (.string ByteArray.empty)] := by kernel_rfl
theorem slO_10 : slO Tryd.prog 10 = some none := by kernel_rfl
theorem stO_10 : stO Tryd.prog 10 = true := by kernel_rfl
theorem kdT_10 : kdT Tryd.prog 10 = some 2 := by kernel_rfl
theorem knO_10 : knO Tryd.prog 10 = true := by kernel_rfl
theorem agO_11 : aggO Tryd.prog 11 = some false := by kernel_rfl
theorem szO_11 : szO Tryd.prog 11 = some 1 := by kernel_rfl
theorem zrX_11 : zrX Tryd.prog 11 = some [.v (.string ByteArray.empty)] := by kernel_rfl
theorem zrO_11 : zrO Tryd.prog 11 = some [.v (.string ByteArray.empty)] := by kernel_rfl
theorem slO_11 : slO Tryd.prog 11 = some none := by kernel_rfl
theorem stO_11 : stO Tryd.prog 11 = true := by kernel_rfl
theorem kdT_11 : kdT Tryd.prog 11 = some 2 := by kernel_rfl
theorem knO_11 : knO Tryd.prog 11 = true := by kernel_rfl
theorem agO_12 : aggO Tryd.prog 12 = some false := by kernel_rfl
theorem szO_12 : szO Tryd.prog 12 = some 1 := by kernel_rfl
theorem zrX_12 : zrX Tryd.prog 12 = some [.v (.int .u64 0)] := by kernel_rfl
theorem zrO_12 : zrO Tryd.prog 12 = some [.v (.int .u64 0)] := by kernel_rfl
theorem kdT_12 : kdT Tryd.prog 12 = some 1 := by kernel_rfl
theorem knO_12 : knO Tryd.prog 12 = true := by kernel_rfl
theorem inO_12 : inO Tryd.prog 12 = some .u64 := by kernel_rfl
theorem agO_13 : aggO Tryd.prog 13 = some true := by kernel_rfl
theorem szO_13 : szO Tryd.prog 13 = some 2 := by kernel_rfl
theorem zrX_13 : zrX Tryd.prog 13 = some [.v (.string ByteArray.empty), .v (.int .u64 0)] := by kernel_rfl
theorem zrO_13 : zrO Tryd.prog 13 = some [.v (.string ByteArray.empty), .v (.int .u64 0)] := by kernel_rfl
theorem plO_13 : plO Tryd.prog 13 = some [(0, 1), (1, 1)] := by kernel_rfl
theorem fdO_13_0 : fdO Tryd.prog 13 0 = some (0, 1) := by kernel_rfl
theorem fdO_13_1 : fdO Tryd.prog 13 1 = some (1, 1) := by kernel_rfl
theorem knO_13 : knO Tryd.prog 13 = true := by kernel_rfl
theorem agO_14 : aggO Tryd.prog 14 = some true := by kernel_rfl
theorem szO_14 : szO Tryd.prog 14 = some 2 := by kernel_rfl
theorem zrX_14 : zrX Tryd.prog 14 = some [.v (.string ByteArray.empty), .v (.int .u64 0)] := by kernel_rfl
theorem zrO_14 : zrO Tryd.prog 14 = some [.v (.string ByteArray.empty), .v (.int .u64 0)] := by kernel_rfl
theorem plO_14 : plO Tryd.prog 14 = some [(0, 1), (1, 1)] := by kernel_rfl
theorem fdO_14_0 : fdO Tryd.prog 14 0 = some (0, 1) := by kernel_rfl
theorem fdO_14_1 : fdO Tryd.prog 14 1 = some (1, 1) := by kernel_rfl
theorem knO_14 : knO Tryd.prog 14 = true := by kernel_rfl
theorem agO_15 : aggO Tryd.prog 15 = some false := by kernel_rfl
theorem szO_15 : szO Tryd.prog 15 = some 1 := by kernel_rfl
theorem zrX_15 : zrX Tryd.prog 15 = some [.v (.pointer none)] := by kernel_rfl
theorem zrO_15 : zrO Tryd.prog 15 = some [.v (.pointer none)] := by kernel_rfl
theorem knO_15 : knO Tryd.prog 15 = true := by kernel_rfl
theorem agO_16 : aggO Tryd.prog 16 = some false := by kernel_rfl
theorem szO_16 : szO Tryd.prog 16 = some 1 := by kernel_rfl
theorem zrX_16 : zrX Tryd.prog 16 = some [.v (.pointer none)] := by kernel_rfl
theorem zrO_16 : zrO Tryd.prog 16 = some [.v (.pointer none)] := by kernel_rfl
theorem knO_16 : knO Tryd.prog 16 = true := by kernel_rfl
theorem agO_17 : aggO Tryd.prog 17 = some false := by kernel_rfl
theorem szO_17 : szO Tryd.prog 17 = some 1 := by kernel_rfl
theorem zrX_17 : zrX Tryd.prog 17 = some [.v (.pointer none)] := by kernel_rfl
theorem zrO_17 : zrO Tryd.prog 17 = some [.v (.pointer none)] := by kernel_rfl
theorem knO_17 : knO Tryd.prog 17 = true := by kernel_rfl
theorem agO_18 : aggO Tryd.prog 18 = some true := by kernel_rfl
theorem szO_18 : szO Tryd.prog 18 = some 1 := by kernel_rfl
theorem zrX_18 : zrX Tryd.prog 18 = some [.v (.pointer none)] := by kernel_rfl
theorem zrO_18 : zrO Tryd.prog 18 = some [.v (.pointer none)] := by kernel_rfl
theorem plO_18 : plO Tryd.prog 18 = some [(0, 1)] := by kernel_rfl
theorem fdO_18_0 : fdO Tryd.prog 18 0 = some (0, 1) := by kernel_rfl
theorem knO_18 : knO Tryd.prog 18 = true := by kernel_rfl
theorem agO_19 : aggO Tryd.prog 19 = some true := by kernel_rfl
theorem szO_19 : szO Tryd.prog 19 = some 1 := by kernel_rfl
theorem zrX_19 : zrX Tryd.prog 19 = some [.v (.pointer none)] := by kernel_rfl
theorem zrO_19 : zrO Tryd.prog 19 = some [.v (.pointer none)] := by kernel_rfl
theorem plO_19 : plO Tryd.prog 19 = some [(0, 1)] := by kernel_rfl
theorem fdO_19_0 : fdO Tryd.prog 19 0 = some (0, 1) := by kernel_rfl
theorem knO_19 : knO Tryd.prog 19 = true := by kernel_rfl
theorem agO_21 : aggO Tryd.prog 21 = some false := by kernel_rfl
theorem szO_21 : szO Tryd.prog 21 = some 1 := by kernel_rfl
theorem zrX_21 : zrX Tryd.prog 21 = some [.v (.int .i32 0)] := by kernel_rfl
theorem zrO_21 : zrO Tryd.prog 21 = some [.v (.int .i32 0)] := by kernel_rfl
theorem kdT_21 : kdT Tryd.prog 21 = some 1 := by kernel_rfl
theorem knO_21 : knO Tryd.prog 21 = true := by kernel_rfl
theorem inO_21 : inO Tryd.prog 21 = some .i32 := by kernel_rfl
theorem agO_22 : aggO Tryd.prog 22 = some false := by kernel_rfl
theorem szO_22 : szO Tryd.prog 22 = some 1 := by kernel_rfl
theorem zrX_22 : zrX Tryd.prog 22 = some [.sl 0 0 0 (some 0) 0] := by kernel_rfl
theorem zrO_22 : zrO Tryd.prog 22 = some [.sl 0 0 0 (some 0) 0] := by kernel_rfl
theorem elX_22 : elX Tryd.prog 22 = some (51, 2, 24) := by kernel_rfl
theorem elO_22 : elO Tryd.prog 22 = some 51 := by kernel_rfl
theorem slO_22 : slO Tryd.prog 22 = some (some 2) := by kernel_rfl
theorem u8O_22 : u8O Tryd.prog 22 = false := by kernel_rfl
theorem knO_22 : knO Tryd.prog 22 = true := by kernel_rfl
theorem agO_23 : aggO Tryd.prog 23 = some true := by kernel_rfl
theorem szO_23 : szO Tryd.prog 23 = some 2 := by kernel_rfl
theorem zrX_23 : zrX Tryd.prog 23 = some [.sl 0 0 0 (some 0) 0, .v (.int .i64 0)] := by kernel_rfl
theorem zrO_23 : zrO Tryd.prog 23 = some [.sl 0 0 0 (some 0) 0, .v (.int .i64 0)] := by kernel_rfl
theorem plO_23 : plO Tryd.prog 23 = some [(0, 1), (1, 1)] := by kernel_rfl
theorem fdO_23_0 : fdO Tryd.prog 23 0 = some (0, 1) := by kernel_rfl
theorem fdO_23_1 : fdO Tryd.prog 23 1 = some (1, 1) := by kernel_rfl
theorem knO_23 : knO Tryd.prog 23 = true := by kernel_rfl
theorem agO_24 : aggO Tryd.prog 24 = some true := by kernel_rfl
theorem szO_24 : szO Tryd.prog 24 = some 2 := by kernel_rfl
theorem zrX_24 : zrX Tryd.prog 24 = some [.sl 0 0 0 (some 0) 0, .v (.int .i64 0)] := by kernel_rfl
theorem zrO_24 : zrO Tryd.prog 24 = some [.sl 0 0 0 (some 0) 0, .v (.int .i64 0)] := by kernel_rfl
theorem plO_24 : plO Tryd.prog 24 = some [(0, 1), (1, 1)] := by kernel_rfl
theorem fdO_24_0 : fdO Tryd.prog 24 0 = some (0, 1) := by kernel_rfl
theorem fdO_24_1 : fdO Tryd.prog 24 1 = some (1, 1) := by kernel_rfl
theorem knO_24 : knO Tryd.prog 24 = true := by kernel_rfl
theorem agO_26 : aggO Tryd.prog 26 = some false := by kernel_rfl
theorem szO_26 : szO Tryd.prog 26 = some 1 := by kernel_rfl
theorem zrX_26 : zrX Tryd.prog 26 = some [.sl 0 0 0 (some 0) 0] := by kernel_rfl
theorem zrO_26 : zrO Tryd.prog 26 = some [.sl 0 0 0 (some 0) 0] := by kernel_rfl
theorem elX_26 : elX Tryd.prog 26 = some (42, 2, 24) := by kernel_rfl
theorem elO_26 : elO Tryd.prog 26 = some 42 := by kernel_rfl
theorem slO_26 : slO Tryd.prog 26 = some (some 2) := by kernel_rfl
theorem u8O_26 : u8O Tryd.prog 26 = false := by kernel_rfl
theorem knO_26 : knO Tryd.prog 26 = true := by kernel_rfl
theorem agO_27 : aggO Tryd.prog 27 = some true := by kernel_rfl
theorem szO_27 : szO Tryd.prog 27 = some 1 := by kernel_rfl
theorem zrX_27 : zrX Tryd.prog 27 = some [.sl 0 0 0 (some 0) 0] := by kernel_rfl
theorem zrO_27 : zrO Tryd.prog 27 = some [.sl 0 0 0 (some 0) 0] := by kernel_rfl
theorem plO_27 : plO Tryd.prog 27 = some [(0, 1)] := by kernel_rfl
theorem fdO_27_0 : fdO Tryd.prog 27 0 = some (0, 1) := by kernel_rfl
theorem knO_27 : knO Tryd.prog 27 = true := by kernel_rfl
theorem agO_28 : aggO Tryd.prog 28 = some true := by kernel_rfl
theorem szO_28 : szO Tryd.prog 28 = some 1 := by kernel_rfl
theorem zrX_28 : zrX Tryd.prog 28 = some [.sl 0 0 0 (some 0) 0] := by kernel_rfl
theorem zrO_28 : zrO Tryd.prog 28 = some [.sl 0 0 0 (some 0) 0] := by kernel_rfl
theorem plO_28 : plO Tryd.prog 28 = some [(0, 1)] := by kernel_rfl
theorem fdO_28_0 : fdO Tryd.prog 28 0 = some (0, 1) := by kernel_rfl
theorem knO_28 : knO Tryd.prog 28 = true := by kernel_rfl
theorem agO_30 : aggO Tryd.prog 30 = some true := by kernel_rfl
theorem szO_30 : szO Tryd.prog 30 = some 2 := by kernel_rfl
theorem zrX_30 : zrX Tryd.prog 30 = some [.sl 0 0 0 (some 0) 0, .v (.int .i64 0)] := by kernel_rfl
theorem zrO_30 : zrO Tryd.prog 30 = some [.sl 0 0 0 (some 0) 0, .v (.int .i64 0)] := by kernel_rfl
theorem plO_30 : plO Tryd.prog 30 = some [(0, 1), (1, 1)] := by kernel_rfl
theorem fdO_30_0 : fdO Tryd.prog 30 0 = some (0, 1) := by kernel_rfl
theorem fdO_30_1 : fdO Tryd.prog 30 1 = some (1, 1) := by kernel_rfl
theorem knO_30 : knO Tryd.prog 30 = true := by kernel_rfl
theorem agO_31 : aggO Tryd.prog 31 = some true := by kernel_rfl
theorem szO_31 : szO Tryd.prog 31 = some 2 := by kernel_rfl
theorem zrX_31 : zrX Tryd.prog 31 = some [.sl 0 0 0 (some 0) 0, .v (.int .i64 0)] := by kernel_rfl
theorem zrO_31 : zrO Tryd.prog 31 = some [.sl 0 0 0 (some 0) 0, .v (.int .i64 0)] := by kernel_rfl
theorem plO_31 : plO Tryd.prog 31 = some [(0, 1), (1, 1)] := by kernel_rfl
theorem fdO_31_0 : fdO Tryd.prog 31 0 = some (0, 1) := by kernel_rfl
theorem fdO_31_1 : fdO Tryd.prog 31 1 = some (1, 1) := by kernel_rfl
theorem knO_31 : knO Tryd.prog 31 = true := by kernel_rfl
theorem agO_41 : aggO Tryd.prog 41 = some true := by kernel_rfl
theorem szO_41 : szO Tryd.prog 41 = some 2 := by kernel_rfl
theorem zrX_41 : zrX Tryd.prog 41 = some [.v (.string ByteArray.empty), .v (.int .i64 0)] := by kernel_rfl
theorem zrO_41 : zrO Tryd.prog 41 = some [.v (.string ByteArray.empty), .v (.int .i64 0)] := by kernel_rfl
theorem plO_41 : plO Tryd.prog 41 = some [(0, 1), (1, 1)] := by kernel_rfl
theorem fdO_41_0 : fdO Tryd.prog 41 0 = some (0, 1) := by kernel_rfl
theorem fdO_41_1 : fdO Tryd.prog 41 1 = some (1, 1) := by kernel_rfl
theorem knO_41 : knO Tryd.prog 41 = true := by kernel_rfl
theorem agO_42 : aggO Tryd.prog 42 = some true := by kernel_rfl
theorem szO_42 : szO Tryd.prog 42 = some 2 := by kernel_rfl
theorem zrX_42 : zrX Tryd.prog 42 = some [.v (.string ByteArray.empty), .v (.int .i64 0)] := by kernel_rfl
theorem zrO_42 : zrO Tryd.prog 42 = some [.v (.string ByteArray.empty), .v (.int .i64 0)] := by kernel_rfl
theorem plO_42 : plO Tryd.prog 42 = some [(0, 1), (1, 1)] := by kernel_rfl
theorem fdO_42_0 : fdO Tryd.prog 42 0 = some (0, 1) := by kernel_rfl
theorem fdO_42_1 : fdO Tryd.prog 42 1 = some (1, 1) := by kernel_rfl
theorem kdO_42 : kdO Tryd.prog 42 = some [2, 1] := by kernel_rfl
theorem knO_42 : knO Tryd.prog 42 = true := by kernel_rfl
theorem agO_46 : aggO Tryd.prog 46 = some false := by kernel_rfl
theorem szO_46 : szO Tryd.prog 46 = some 1 := by kernel_rfl
theorem zrX_46 : zrX Tryd.prog 46 = some [.v (.int .u64 0)] := by kernel_rfl
theorem zrO_46 : zrO Tryd.prog 46 = some [.v (.int .u64 0)] := by kernel_rfl
theorem kdT_46 : kdT Tryd.prog 46 = some 1 := by kernel_rfl
theorem knO_46 : knO Tryd.prog 46 = true := by kernel_rfl
theorem inO_46 : inO Tryd.prog 46 = some .u64 := by kernel_rfl
theorem agO_51 : aggO Tryd.prog 51 = some true := by kernel_rfl
theorem szO_51 : szO Tryd.prog 51 = some 2 := by kernel_rfl
theorem zrX_51 : zrX Tryd.prog 51 = some [.v (.string ByteArray.empty), .v (.int .i64 0)] := by kernel_rfl
theorem zrO_51 : zrO Tryd.prog 51 = some [.v (.string ByteArray.empty), .v (.int .i64 0)] := by kernel_rfl
theorem plO_51 : plO Tryd.prog 51 = some [(0, 1), (1, 1)] := by kernel_rfl
theorem fdO_51_0 : fdO Tryd.prog 51 0 = some (0, 1) := by kernel_rfl
theorem fdO_51_1 : fdO Tryd.prog 51 1 = some (1, 1) := by kernel_rfl
theorem kdO_51 : kdO Tryd.prog 51 = some [2, 1] := by kernel_rfl
theorem knO_51 : knO Tryd.prog 51 = true := by kernel_rfl
theorem agO_56 : aggO Tryd.prog 56 = some false := by kernel_rfl
theorem szO_56 : szO Tryd.prog 56 = some 1 := by kernel_rfl
theorem zrX_56 : zrX Tryd.prog 56 = some [.v (.int .u32 0)] := by kernel_rfl
theorem zrO_56 : zrO Tryd.prog 56 = some [.v (.int .u32 0)] := by kernel_rfl
theorem kdT_56 : kdT Tryd.prog 56 = some 1 := by kernel_rfl
theorem knO_56 : knO Tryd.prog 56 = true := by kernel_rfl
theorem inO_56 : inO Tryd.prog 56 = some .u32 := by kernel_rfl
theorem agO_58 : aggO Tryd.prog 58 = some false := by kernel_rfl
theorem szO_58 : szO Tryd.prog 58 = some 1 := by kernel_rfl
theorem zrX_58 : zrX Tryd.prog 58 = some [.v (.int .u64 0)] := by kernel_rfl
theorem zrO_58 : zrO Tryd.prog 58 = some [.v (.int .u64 0)] := by kernel_rfl
theorem kdT_58 : kdT Tryd.prog 58 = some 1 := by kernel_rfl
theorem knO_58 : knO Tryd.prog 58 = true := by kernel_rfl
theorem inO_58 : inO Tryd.prog 58 = some .u64 := by kernel_rfl
theorem agO_65 : aggO Tryd.prog 65 = some false := by kernel_rfl
theorem szO_65 : szO Tryd.prog 65 = some 1 := by kernel_rfl
theorem zrX_65 : zrX Tryd.prog 65 = some [.sl 0 0 0 (some 0) 0] := by kernel_rfl
theorem zrO_65 : zrO Tryd.prog 65 = some [.sl 0 0 0 (some 0) 0] := by kernel_rfl
theorem elX_65 : elX Tryd.prog 65 = some (5, 1, 1) := by kernel_rfl
theorem elO_65 : elO Tryd.prog 65 = some 5 := by kernel_rfl
theorem slO_65 : slO Tryd.prog 65 = some (some 1) := by kernel_rfl
theorem u8O_65 : u8O Tryd.prog 65 = true := by kernel_rfl
theorem knO_65 : knO Tryd.prog 65 = true := by kernel_rfl
theorem agO_69 : aggO Tryd.prog 69 = some true := by kernel_rfl
theorem szO_69 : szO Tryd.prog 69 = some 4 := by kernel_rfl
theorem zrX_69 : zrX Tryd.prog 69 = some [.v (.pointer none), .v (.pointer none), .v (.pointer none), .v (.string ByteArray.empty)] := by kernel_rfl
theorem zrO_69 : zrO Tryd.prog 69 = some [.v (.pointer none), .v (.pointer none), .v (.pointer none), .v (.string ByteArray.empty)] := by kernel_rfl
theorem plO_69 : plO Tryd.prog 69 = some [(0, 1), (1, 1), (2, 1), (3, 1)] := by kernel_rfl
theorem fdO_69_0 : fdO Tryd.prog 69 0 = some (0, 1) := by kernel_rfl
theorem fdO_69_1 : fdO Tryd.prog 69 1 = some (1, 1) := by kernel_rfl
theorem fdO_69_2 : fdO Tryd.prog 69 2 = some (2, 1) := by kernel_rfl
theorem fdO_69_3 : fdO Tryd.prog 69 3 = some (3, 1) := by kernel_rfl
theorem knO_69 : knO Tryd.prog 69 = true := by kernel_rfl
theorem agO_70 : aggO Tryd.prog 70 = some true := by kernel_rfl
theorem szO_70 : szO Tryd.prog 70 = some 4 := by kernel_rfl
theorem zrX_70 : zrX Tryd.prog 70 = some [.v (.pointer none), .v (.pointer none), .v (.pointer none), .v (.string ByteArray.empty)] := by kernel_rfl
theorem zrO_70 : zrO Tryd.prog 70 = some [.v (.pointer none), .v (.pointer none), .v (.pointer none), .v (.string ByteArray.empty)] := by kernel_rfl
theorem plO_70 : plO Tryd.prog 70 = some [(0, 1), (1, 1), (2, 1), (3, 1)] := by kernel_rfl
theorem fdO_70_0 : fdO Tryd.prog 70 0 = some (0, 1) := by kernel_rfl
theorem fdO_70_1 : fdO Tryd.prog 70 1 = some (1, 1) := by kernel_rfl
theorem fdO_70_2 : fdO Tryd.prog 70 2 = some (2, 1) := by kernel_rfl
theorem fdO_70_3 : fdO Tryd.prog 70 3 = some (3, 1) := by kernel_rfl
theorem knO_70 : knO Tryd.prog 70 = true := by kernel_rfl
theorem agO_72 : aggO Tryd.prog 72 = some true := by kernel_rfl
theorem szO_72 : szO Tryd.prog 72 = some 0 := by kernel_rfl
theorem zrX_72 : zrX Tryd.prog 72 = some [] := by kernel_rfl
theorem zrO_72 : zrO Tryd.prog 72 = some [] := by kernel_rfl
theorem plO_72 : plO Tryd.prog 72 = some [(0, 0)] := by kernel_rfl
theorem knO_72 : knO Tryd.prog 72 = true := by kernel_rfl
theorem agO_73 : aggO Tryd.prog 73 = some true := by kernel_rfl
theorem szO_73 : szO Tryd.prog 73 = some 0 := by kernel_rfl
theorem zrX_73 : zrX Tryd.prog 73 = some [] := by kernel_rfl
theorem zrO_73 : zrO Tryd.prog 73 = some [] := by kernel_rfl
theorem plO_73 : plO Tryd.prog 73 = some [(0, 0)] := by kernel_rfl
theorem knO_73 : knO Tryd.prog 73 = true := by kernel_rfl
theorem agO_75 : aggO Tryd.prog 75 = some false := by kernel_rfl
theorem szO_75 : szO Tryd.prog 75 = some 1 := by kernel_rfl
theorem zrX_75 : zrX Tryd.prog 75 = some [.v (.int .u8 0)] := by kernel_rfl
theorem zrO_75 : zrO Tryd.prog 75 = some [.v (.int .u8 0)] := by kernel_rfl
theorem kdT_75 : kdT Tryd.prog 75 = some 1 := by kernel_rfl
theorem knO_75 : knO Tryd.prog 75 = true := by kernel_rfl
theorem inO_75 : inO Tryd.prog 75 = some .u8 := by kernel_rfl
theorem agO_76 : aggO Tryd.prog 76 = some false := by kernel_rfl
theorem szO_76 : szO Tryd.prog 76 = some 1 := by kernel_rfl
theorem zrX_76 : zrX Tryd.prog 76 = some [.v (.int .u8 0)] := by kernel_rfl
theorem zrO_76 : zrO Tryd.prog 76 = some [.v (.int .u8 0)] := by kernel_rfl
theorem kdT_76 : kdT Tryd.prog 76 = some 1 := by kernel_rfl
theorem knO_76 : knO Tryd.prog 76 = true := by kernel_rfl
theorem inO_76 : inO Tryd.prog 76 = some .u8 := by kernel_rfl
theorem agO_78 : aggO Tryd.prog 78 = some false := by kernel_rfl
theorem szO_78 : szO Tryd.prog 78 = some 1 := by kernel_rfl
theorem zrX_78 : zrX Tryd.prog 78 = some [.v (.pointer none)] := by kernel_rfl
theorem zrO_78 : zrO Tryd.prog 78 = some [.v (.pointer none)] := by kernel_rfl
theorem knO_78 : knO Tryd.prog 78 = true := by kernel_rfl
theorem agO_79 : aggO Tryd.prog 79 = some false := by kernel_rfl
theorem szO_79 : szO Tryd.prog 79 = some 1 := by kernel_rfl
theorem zrX_79 : zrX Tryd.prog 79 = some [.v (.int .i32 0)] := by kernel_rfl
theorem zrO_79 : zrO Tryd.prog 79 = some [.v (.int .i32 0)] := by kernel_rfl
theorem kdT_79 : kdT Tryd.prog 79 = some 1 := by kernel_rfl
theorem knO_79 : knO Tryd.prog 79 = true := by kernel_rfl
theorem inO_79 : inO Tryd.prog 79 = some .i32 := by kernel_rfl
theorem agO_80 : aggO Tryd.prog 80 = some false := by kernel_rfl
theorem szO_80 : szO Tryd.prog 80 = some 1 := by kernel_rfl
theorem zrX_80 : zrX Tryd.prog 80 = some [.v (.int .i32 0)] := by kernel_rfl
theorem zrO_80 : zrO Tryd.prog 80 = some [.v (.int .i32 0)] := by kernel_rfl
theorem kdT_80 : kdT Tryd.prog 80 = some 1 := by kernel_rfl
theorem knO_80 : knO Tryd.prog 80 = true := by kernel_rfl
theorem inO_80 : inO Tryd.prog 80 = some .i32 := by kernel_rfl
theorem agO_81 : aggO Tryd.prog 81 = some true := by kernel_rfl
theorem szO_81 : szO Tryd.prog 81 = some 11 := by kernel_rfl
theorem zrX_81 : zrX Tryd.prog 81 = some [.v (.int .u64 0), .v (.int .u64 0), .v (.int .u32 0), .v (.int .u8 0), .v (.int .u8 0), .v (.int .u8 0), .v (.int .u8 0), .v .nilFunc, .v (.pointer none), .v (.int .i32 0), .v (.int .i32 0)] := by kernel_rfl
theorem zrO_81 : zrO Tryd.prog 81 = some [.v (.int .u64 0), .v (.int .u64 0), .v (.int .u32 0), .v (.int .u8 0), .v (.int .u8 0), .v (.int .u8 0), .v (.int .u8 0), .v .nilFunc, .v (.pointer none), .v (.int .i32 0), .v (.int .i32 0)] := by kernel_rfl
theorem plO_81 : plO Tryd.prog 81 = some [(0, 1), (1, 1), (2, 1), (3, 1), (4, 1), (5, 1), (6, 1), (7, 1), (8, 1), (9, 1), (10, 1)] := by kernel_rfl
theorem fdO_81_0 : fdO Tryd.prog 81 0 = some (0, 1) := by kernel_rfl
theorem fdO_81_1 : fdO Tryd.prog 81 1 = some (1, 1) := by kernel_rfl
theorem fdO_81_2 : fdO Tryd.prog 81 2 = some (2, 1) := by kernel_rfl
theorem fdO_81_3 : fdO Tryd.prog 81 3 = some (3, 1) := by kernel_rfl
theorem fdO_81_4 : fdO Tryd.prog 81 4 = some (4, 1) := by kernel_rfl
theorem fdO_81_5 : fdO Tryd.prog 81 5 = some (5, 1) := by kernel_rfl
theorem fdO_81_6 : fdO Tryd.prog 81 6 = some (6, 1) := by kernel_rfl
theorem fdO_81_7 : fdO Tryd.prog 81 7 = some (7, 1) := by kernel_rfl
theorem fdO_81_8 : fdO Tryd.prog 81 8 = some (8, 1) := by kernel_rfl
theorem fdO_81_9 : fdO Tryd.prog 81 9 = some (9, 1) := by kernel_rfl
theorem fdO_81_10 : fdO Tryd.prog 81 10 = some (10, 1) := by kernel_rfl
theorem knO_81 : knO Tryd.prog 81 = true := by kernel_rfl
theorem agO_82 : aggO Tryd.prog 82 = some true := by kernel_rfl
theorem szO_82 : szO Tryd.prog 82 = some 11 := by kernel_rfl
theorem zrX_82 : zrX Tryd.prog 82 = some [.v (.int .u64 0), .v (.int .u64 0), .v (.int .u32 0), .v (.int .u8 0), .v (.int .u8 0), .v (.int .u8 0), .v (.int .u8 0), .v .nilFunc, .v (.pointer none), .v (.int .i32 0), .v (.int .i32 0)] := by kernel_rfl
theorem zrO_82 : zrO Tryd.prog 82 = some [.v (.int .u64 0), .v (.int .u64 0), .v (.int .u32 0), .v (.int .u8 0), .v (.int .u8 0), .v (.int .u8 0), .v (.int .u8 0), .v .nilFunc, .v (.pointer none), .v (.int .i32 0), .v (.int .i32 0)] := by kernel_rfl
theorem plO_82 : plO Tryd.prog 82 = some [(0, 1), (1, 1), (2, 1), (3, 1), (4, 1), (5, 1), (6, 1), (7, 1), (8, 1), (9, 1), (10, 1)] := by kernel_rfl
theorem fdO_82_0 : fdO Tryd.prog 82 0 = some (0, 1) := by kernel_rfl
theorem fdO_82_1 : fdO Tryd.prog 82 1 = some (1, 1) := by kernel_rfl
theorem fdO_82_2 : fdO Tryd.prog 82 2 = some (2, 1) := by kernel_rfl
theorem fdO_82_3 : fdO Tryd.prog 82 3 = some (3, 1) := by kernel_rfl
theorem fdO_82_4 : fdO Tryd.prog 82 4 = some (4, 1) := by kernel_rfl
theorem fdO_82_5 : fdO Tryd.prog 82 5 = some (5, 1) := by kernel_rfl
theorem fdO_82_6 : fdO Tryd.prog 82 6 = some (6, 1) := by kernel_rfl
theorem fdO_82_7 : fdO Tryd.prog 82 7 = some (7, 1) := by kernel_rfl
theorem fdO_82_8 : fdO Tryd.prog 82 8 = some (8, 1) := by kernel_rfl
theorem fdO_82_9 : fdO Tryd.prog 82 9 = some (9, 1) := by kernel_rfl
theorem fdO_82_10 : fdO Tryd.prog 82 10 = some (10, 1) := by kernel_rfl
theorem knO_82 : knO Tryd.prog 82 = true := by kernel_rfl
theorem ent_3 : Ent Tryd.prog 3 := ent_of Tryd.func3 (by kernel_rfl) rfl
theorem ent_4 : Ent Tryd.prog 4 := ent_of Tryd.func4 (by kernel_rfl) rfl
theorem ent_5 : Ent Tryd.prog 5 := ent_of Tryd.func5 (by kernel_rfl) rfl
theorem ent_6 : Ent Tryd.prog 6 := ent_of Tryd.func6 (by kernel_rfl) rfl
theorem ent_7 : Ent Tryd.prog 7 := ent_of Tryd.func7 (by kernel_rfl) rfl
theorem ent_8 : Ent Tryd.prog 8 := ent_of Tryd.func8 (by kernel_rfl) rfl
theorem ent_9 : Ent Tryd.prog 9 := ent_of Tryd.func9 (by kernel_rfl) rfl
theorem ent_10 : Ent Tryd.prog 10 := ent_of Tryd.func10 (by kernel_rfl) rfl
theorem ent_11 : Ent Tryd.prog 11 := ent_of Tryd.func11 (by kernel_rfl) rfl
theorem ent_12 : Ent Tryd.prog 12 := ent_of Tryd.func12 (by kernel_rfl) rfl
theorem ent_13 : Ent Tryd.prog 13 := ent_of Tryd.func13 (by kernel_rfl) rfl
theorem ent_14 : Ent Tryd.prog 14 := ent_of Tryd.func14 (by kernel_rfl) rfl
theorem ent_15 : Ent Tryd.prog 15 := ent_of Tryd.func15 (by kernel_rfl) rfl
theorem ent_16 : Ent Tryd.prog 16 := ent_of Tryd.func16 (by kernel_rfl) rfl
theorem ent_17 : Ent Tryd.prog 17 := ent_of Tryd.func17 (by kernel_rfl) rfl
theorem ent_18 : Ent Tryd.prog 18 := ent_of Tryd.func18 (by kernel_rfl) rfl
theorem ent_19 : Ent Tryd.prog 19 := ent_of Tryd.func19 (by kernel_rfl) rfl
theorem ent_20 : Ent Tryd.prog 20 := ent_of Tryd.func20 (by kernel_rfl) rfl
theorem ent_21 : Ent Tryd.prog 21 := ent_of Tryd.func21 (by kernel_rfl) rfl
theorem ent_22 : Ent Tryd.prog 22 := ent_of Tryd.func22 (by kernel_rfl) rfl
theorem ent_23 : Ent Tryd.prog 23 := ent_of Tryd.func23 (by kernel_rfl) rfl
theorem ent_24 : Ent Tryd.prog 24 := ent_of Tryd.func24 (by kernel_rfl) rfl
theorem ent_25 : Ent Tryd.prog 25 := ent_of Tryd.func25 (by kernel_rfl) rfl
theorem ent_26 : Ent Tryd.prog 26 := ent_of Tryd.func26 (by kernel_rfl) rfl
theorem ent_27 : Ent Tryd.prog 27 := ent_of Tryd.func27 (by kernel_rfl) rfl
theorem ent_28 : Ent Tryd.prog 28 := ent_of Tryd.func28 (by kernel_rfl) rfl
theorem ent_29 : Ent Tryd.prog 29 := ent_of Tryd.func29 (by kernel_rfl) rfl
theorem ent_30 : Ent Tryd.prog 30 := ent_of Tryd.func30 (by kernel_rfl) rfl
theorem ent_31 : Ent Tryd.prog 31 := ent_of Tryd.func31 (by kernel_rfl) rfl
theorem ent_32 : Ent Tryd.prog 32 := ent_of Tryd.func32 (by kernel_rfl) rfl
theorem ent_33 : Ent Tryd.prog 33 := ent_of Tryd.func33 (by kernel_rfl) rfl
theorem ent_34 : Ent Tryd.prog 34 := ent_of Tryd.func34 (by kernel_rfl) rfl
theorem ent_35 : Ent Tryd.prog 35 := ent_of Tryd.func35 (by kernel_rfl) rfl
theorem ent_36 : Ent Tryd.prog 36 := ent_of Tryd.func36 (by kernel_rfl) rfl
theorem ent_37 : Ent Tryd.prog 37 := ent_of Tryd.func37 (by kernel_rfl) rfl
theorem ent_38 : Ent Tryd.prog 38 := ent_of Tryd.func38 (by kernel_rfl) rfl
theorem ent_39 : Ent Tryd.prog 39 := ent_of Tryd.func39 (by kernel_rfl) rfl
theorem ent_40 : Ent Tryd.prog 40 := ent_of Tryd.func40 (by kernel_rfl) rfl
theorem ent_41 : Ent Tryd.prog 41 := ent_of Tryd.func41 (by kernel_rfl) rfl
theorem ent_42 : Ent Tryd.prog 42 := ent_of Tryd.func42 (by kernel_rfl) rfl
theorem ent_43 : Ent Tryd.prog 43 := ent_of Tryd.func43 (by kernel_rfl) rfl
theorem mixd : Tryd.prog.follows .mixedOrders = true := by kernel_rfl
attribute [simp] argT aOps_nil aOps_cons aStep_yes aStep_no aDo_call aDo_op aCont_some aGo_fn gdA gdB gdC nth callOf fOp keepS ev get_hit get_miss get_nil ofV put fBinX fBin eqv eqvs fPick fLoad fStore fFieldA fIdxA fIdx fSliceX fSlice num fLenX fCall fCap fNew cellsA fExt fUn fNot fConvX fConv fNil fBuild fillA fBuildS fElems fMake fApp fAppZ fMin fMax oneA Value.oneCell' upd_eq upd_ne upd_upd del_eq del_ne w64 resL resV resO ovr_none ovr_one ovr_upd u8s dOps_nil dOps_cons dStep_yes dStep_no dDo_call dDo_op dCont_some dGo_fn opR opW rdN wrN nmAs nmA List.getElem?_cons_zero List.getElem?_cons_succ
attribute [simp] agO_2 szO_2 zrX_2 zrO_2 kdT_2 knO_2 inO_2 agO_3 szO_3 zrX_3 zrO_3 kdT_3 knO_3 inO_3 agO_4 szO_4 zrX_4 zrO_4 kdT_4 knO_4 agO_5 szO_5 zrX_5 zrO_5 kdT_5 knO_5 inO_5 agO_6 szO_6 zrX_6 zrO_6 kdT_6 knO_6 inO_6 agO_7 szO_7 zrX_7 zrO_7 plO_7 fdO_7_0 fdO_7_1 fdO_7_2 fdO_7_3 knO_7 agO_8 szO_8 zrX_8 zrO_8 plO_8 fdO_8_0 fdO_8_1 fdO_8_2 fdO_8_3 knO_8 agO_9 szO_9 zrX_9 zrO_9 slO_9 stO_9 kdT_9 knO_9 agO_10 szO_10 zrX_10 zrO_10 slO_10 stO_10 kdT_10 knO_10 agO_11 szO_11 zrX_11 zrO_11 slO_11 stO_11 kdT_11 knO_11 agO_12 szO_12 zrX_12 zrO_12 kdT_12 knO_12 inO_12 agO_13 szO_13 zrX_13 zrO_13 plO_13 fdO_13_0 fdO_13_1 knO_13 agO_14 szO_14 zrX_14 zrO_14 plO_14 fdO_14_0 fdO_14_1 knO_14 agO_15 szO_15 zrX_15 zrO_15 knO_15 agO_16 szO_16 zrX_16 zrO_16 knO_16 agO_17 szO_17 zrX_17 zrO_17 knO_17 agO_18 szO_18 zrX_18 zrO_18 plO_18 fdO_18_0 knO_18 agO_19 szO_19 zrX_19 zrO_19 plO_19 fdO_19_0 knO_19 agO_21 szO_21 zrX_21 zrO_21 kdT_21 knO_21 inO_21 agO_22 szO_22 zrX_22 zrO_22 elX_22 elO_22 slO_22 u8O_22 knO_22 agO_23 szO_23 zrX_23 zrO_23 plO_23 fdO_23_0 fdO_23_1 knO_23 agO_24 szO_24 zrX_24 zrO_24 plO_24 fdO_24_0 fdO_24_1 knO_24 agO_26 szO_26 zrX_26 zrO_26 elX_26 elO_26 slO_26 u8O_26 knO_26 agO_27 szO_27 zrX_27 zrO_27 plO_27 fdO_27_0 knO_27 agO_28 szO_28 zrX_28 zrO_28 plO_28 fdO_28_0 knO_28 agO_30 szO_30 zrX_30 zrO_30 plO_30 fdO_30_0 fdO_30_1 knO_30 agO_31 szO_31 zrX_31 zrO_31 plO_31 fdO_31_0 fdO_31_1 knO_31 agO_41 szO_41 zrX_41 zrO_41 plO_41 fdO_41_0 fdO_41_1 knO_41 agO_42 szO_42 zrX_42 zrO_42 plO_42 fdO_42_0 fdO_42_1 kdO_42 knO_42 agO_46 szO_46 zrX_46 zrO_46 kdT_46 knO_46 inO_46 agO_51 szO_51 zrX_51 zrO_51 plO_51 fdO_51_0 fdO_51_1 kdO_51 knO_51 agO_56 szO_56 zrX_56 zrO_56 kdT_56 knO_56 inO_56 agO_58 szO_58 zrX_58 zrO_58 kdT_58 knO_58 inO_58 agO_65 szO_65 zrX_65 zrO_65 elX_65 elO_65 slO_65 u8O_65 knO_65 agO_69 szO_69 zrX_69 zrO_69 plO_69 fdO_69_0 fdO_69_1 fdO_69_2 fdO_69_3 knO_69 agO_70 szO_70 zrX_70 zrO_70 plO_70 fdO_70_0 fdO_70_1 fdO_70_2 fdO_70_3 knO_70 agO_72 szO_72 zrX_72 zrO_72 plO_72 knO_72 agO_73 szO_73 zrX_73 zrO_73 plO_73 knO_73 agO_75 szO_75 zrX_75 zrO_75 kdT_75 knO_75 inO_75 agO_76 szO_76 zrX_76 zrO_76 kdT_76 knO_76 inO_76 agO_78 szO_78 zrX_78 zrO_78 knO_78 agO_79 szO_79 zrX_79 zrO_79 kdT_79 knO_79 inO_79 agO_80 szO_80 zrX_80 zrO_80 kdT_80 knO_80 inO_80 agO_81 szO_81 zrX_81 zrO_81 plO_81 fdO_81_0 fdO_81_1 fdO_81_2 fdO_81_3 fdO_81_4 fdO_81_5 fdO_81_6 fdO_81_7 fdO_81_8 fdO_81_9 fdO_81_10 knO_81 agO_82 szO_82 zrX_82 zrO_82 plO_82 fdO_82_0 fdO_82_1 fdO_82_2 fdO_82_3 fdO_82_4 fdO_82_5 fdO_82_6 fdO_82_7 fdO_82_8 fdO_82_9 fdO_82_10 knO_82
end Go.Proofs.YtgaiemhbllbaiaaDoor
