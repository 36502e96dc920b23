/- The closed facts on the program's tables of types. No condition. MADE BY A PROGRAM (facts.py). -/
import Derived.Test.YtbdehnjbglpfjaaLB
import Derived.Test.YtbdehnjbglpfjaaRows
set_option linter.unusedSimpArgs false
set_option linter.unusedVariables false
namespace Go.Proofs.Ytbdehnjbglpfjaa
open Go Go.RowKit
theorem agO_2 : aggO Try.prog 2 = some false := by kernel_rfl
theorem szO_2 : szO Try.prog 2 = some 1 := by kernel_rfl
theorem zrX_2 : zrX Try.prog 2 = some [.v (.int .i64 0)] := by kernel_rfl
theorem zrO_2 : zrO Try.prog 2 = some [.v (.int .i64 0)] := by kernel_rfl
theorem kdT_2 : kdT Try.prog 2 = some 1 := by kernel_rfl
theorem knO_2 : knO Try.prog 2 = true := by kernel_rfl
theorem inO_2 : inO Try.prog 2 = some .i64 := by kernel_rfl
theorem agO_3 : aggO Try.prog 3 = some false := by kernel_rfl
theorem szO_3 : szO Try.prog 3 = some 1 := by kernel_rfl
theorem zrX_3 : zrX Try.prog 3 = some [.v (.int .i64 0)] := by kernel_rfl
theorem zrO_3 : zrO Try.prog 3 = some [.v (.int .i64 0)] := by kernel_rfl
theorem kdT_3 : kdT Try.prog 3 = some 1 := by kernel_rfl
theorem knO_3 : knO Try.prog 3 = true := by kernel_rfl
theorem inO_3 : inO Try.prog 3 = some .i64 := by kernel_rfl
theorem agO_4 : aggO Try.prog 4 = some false := by kernel_rfl
theorem szO_4 : szO Try.prog 4 = some 1 := by kernel_rfl
theorem zrX_4 : zrX Try.prog 4 = some [.v (.bool false)] := by kernel_rfl
theorem zrO_4 : zrO Try.prog 4 = some [.v (.bool false)] := by kernel_rfl
theorem kdT_4 : kdT Try.prog 4 = some 0 := by kernel_rfl
theorem knO_4 : knO Try.prog 4 = true := by kernel_rfl
theorem agO_5 : aggO Try.prog 5 = some false := by kernel_rfl
theorem szO_5 : szO Try.prog 5 = some 1 := by kernel_rfl
theorem zrX_5 : zrX Try.prog 5 = some [.v (.int .u8 0)] := by kernel_rfl
theorem zrO_5 : zrO Try.prog 5 = some [.v (.int .u8 0)] := by kernel_rfl
theorem kdT_5 : kdT Try.prog 5 = some 1 := by kernel_rfl
theorem knO_5 : knO Try.prog 5 = true := by kernel_rfl
theorem inO_5 : inO Try.prog 5 = some .u8 := by kernel_rfl
theorem agO_6 : aggO Try.prog 6 = some false := by kernel_rfl
theorem szO_6 : szO Try.prog 6 = some 1 := by kernel_rfl
theorem zrX_6 : zrX Try.prog 6 = some [.v (.int .u8 0)] := by kernel_rfl
theorem zrO_6 : zrO Try.prog 6 = some [.v (.int .u8 0)] := by kernel_rfl
theorem kdT_6 : kdT Try.prog 6 = some 1 := by kernel_rfl
theorem knO_6 : knO Try.prog 6 = true := by kernel_rfl
theorem inO_6 : inO Try.prog 6 = some .u8 := by kernel_rfl
theorem agO_7 : aggO Try.prog 7 = some true := by kernel_rfl
theorem szO_7 : szO Try.prog 7 = some 4 := by kernel_rfl
theorem zrX_7 : zrX Try.prog 7 = some [.v (.int .i64 0), .v (.int .i64 0), .v (.bool false), .v (.int .u8 0)] := by kernel_rfl
theorem zrO_7 : zrO Try.prog 7 = some [.v (.int .i64 0), .v (.int .i64 0), .v (.bool false), .v (.int .u8 0)] := by kernel_rfl
theorem plO_7 : plO Try.prog 7 = some [(0, 1), (1, 1), (2, 1), (3, 1)] := by kernel_rfl
theorem fdO_7_0 : fdO Try.prog 7 0 = some (0, 1) := by kernel_rfl
theorem fdO_7_1 : fdO Try.prog 7 1 = some (1, 1) := by kernel_rfl
theorem fdO_7_2 : fdO Try.prog 7 2 = some (2, 1) := by kernel_rfl
theorem fdO_7_3 : fdO Try.prog 7 3 = some (3, 1) := by kernel_rfl
theorem knO_7 : knO Try.prog 7 = true := by kernel_rfl
theorem agO_8 : aggO Try.prog 8 = some true := by kernel_rfl
theorem szO_8 : szO Try.prog 8 = some 4 := by kernel_rfl
theorem zrX_8 : zrX Try.prog 8 = some [.v (.int .i64 0), .v (.int .i64 0), .v (.bool false), .v (.int .u8 0)] := by kernel_rfl
theorem zrO_8 : zrO Try.prog 8 = some [.v (.int .i64 0), .v (.int .i64 0), .v (.bool false), .v (.int .u8 0)] := by kernel_rfl
theorem plO_8 : plO Try.prog 8 = some [(0, 1), (1, 1), (2, 1), (3, 1)] := by kernel_rfl
theorem fdO_8_0 : fdO Try.prog 8 0 = some (0, 1) := by kernel_rfl
theorem fdO_8_1 : fdO Try.prog 8 1 = some (1, 1) := by kernel_rfl
theorem fdO_8_2 : fdO Try.prog 8 2 = some (2, 1) := by kernel_rfl
theorem fdO_8_3 : fdO Try.prog 8 3 = some (3, 1) := by kernel_rfl
theorem knO_8 : knO Try.prog 8 = true := by kernel_rfl
theorem agO_9 : aggO Try.prog 9 = some false := by kernel_rfl
theorem szO_9 : szO Try.prog 9 = some 1 := by kernel_rfl
theorem zrX_9 : zrX Try.prog 9 = some [.v (.string ByteArray.empty)] := by kernel_rfl
theorem zrO_9 : zrO Try.prog 9 = some [.v (.string ByteArray.empty)] := by kernel_rfl
theorem slO_9 : slO Try.prog 9 = some none := by kernel_rfl
theorem stO_9 : stO Try.prog 9 = true := by kernel_rfl
theorem kdT_9 : kdT Try.prog 9 = some 2 := by kernel_rfl
theorem knO_9 : knO Try.prog 9 = true := by kernel_rfl
theorem agO_10 : aggO Try.prog 10 = some false := by kernel_rfl
theorem szO_10 : szO Try.prog 10 = some 1 := by kernel_rfl
theorem zrX_10 : zrX Try.prog 10 = some [.v (.string ByteArray.empty)] := by kernel_rfl
theorem zrO_10 : zrO Try.prog 10 = some [.v (.string ByteArray.empty)] := by kernel_rfl
theorem slO_10 : slO Try.prog 10 = some none := by kernel_rfl
theorem stO_10 : stO Try.prog 10 = true := by kernel_rfl
theorem kdT_10 : kdT Try.prog 10 = some 2 := by kernel_rfl
theorem knO_10 : knO Try.prog 10 = true := by kernel_rfl
theorem agO_11 : aggO Try.prog 11 = some false := by kernel_rfl
theorem szO_11 : szO Try.prog 11 = some 1 := by kernel_rfl
theorem zrX_11 : zrX Try.prog 11 = some [.v (.string ByteArray.empty)] := by kernel_rfl
theorem zrO_11 : zrO Try.prog 11 = some [.v (.string ByteArray.empty)] := by kernel_rfl
theorem slO_11 : slO Try.prog 11 = some none := by kernel_rfl
theorem stO_11 : stO Try.prog 11 = true := by kernel_rfl
theorem kdT_11 : kdT Try.prog 11 = some 2 := by kernel_rfl
theorem knO_11 : knO Try.prog 11 = true := by kernel_rfl
theorem agO_12 : aggO Try.prog 12 = some false := by kernel_rfl
theorem szO_12 : szO Try.prog 12 = some 1 := by kernel_rfl
theorem zrX_12 : zrX Try.prog 12 = some [.v (.int .u64 0)] := by kernel_rfl
theorem zrO_12 : zrO Try.prog 12 = some [.v (.int .u64 0)] := by kernel_rfl
theorem kdT_12 : kdT Try.prog 12 = some 1 := by kernel_rfl
theorem knO_12 : knO Try.prog 12 = true := by kernel_rfl
theorem inO_12 : inO Try.prog 12 = some .u64 := by kernel_rfl
theorem agO_13 : aggO Try.prog 13 = some true := by kernel_rfl
theorem szO_13 : szO Try.prog 13 = some 2 := by kernel_rfl
theorem zrX_13 : zrX Try.prog 13 = some [.v (.string ByteArray.empty), .v (.int .u64 0)] := by kernel_rfl
theorem zrO_13 : zrO Try.prog 13 = some [.v (.string ByteArray.empty), .v (.int .u64 0)] := by kernel_rfl
theorem plO_13 : plO Try.prog 13 = some [(0, 1), (1, 1)] := by kernel_rfl
theorem fdO_13_0 : fdO Try.prog 13 0 = some (0, 1) := by kernel_rfl
theorem fdO_13_1 : fdO Try.prog 13 1 = some (1, 1) := by kernel_rfl
theorem knO_13 : knO Try.prog 13 = true := by kernel_rfl
theorem agO_14 : aggO Try.prog 14 = some true := by kernel_rfl
theorem szO_14 : szO Try.prog 14 = some 2 := by kernel_rfl
theorem zrX_14 : zrX Try.prog 14 = some [.v (.string ByteArray.empty), .v (.int .u64 0)] := by kernel_rfl
theorem zrO_14 : zrO Try.prog 14 = some [.v (.string ByteArray.empty), .v (.int .u64 0)] := by kernel_rfl
theorem plO_14 : plO Try.prog 14 = some [(0, 1), (1, 1)] := by kernel_rfl
theorem fdO_14_0 : fdO Try.prog 14 0 = some (0, 1) := by kernel_rfl
theorem fdO_14_1 : fdO Try.prog 14 1 = some (1, 1) := by kernel_rfl
theorem knO_14 : knO Try.prog 14 = true := by kernel_rfl
theorem agO_15 : aggO Try.prog 15 = some false := by kernel_rfl
theorem szO_15 : szO Try.prog 15 = some 1 := by kernel_rfl
theorem zrX_15 : zrX Try.prog 15 = some [.v (.pointer none)] := by kernel_rfl
theorem zrO_15 : zrO Try.prog 15 = some [.v (.pointer none)] := by kernel_rfl
theorem knO_15 : knO Try.prog 15 = true := by kernel_rfl
theorem agO_16 : aggO Try.prog 16 = some false := by kernel_rfl
theorem szO_16 : szO Try.prog 16 = some 1 := by kernel_rfl
theorem zrX_16 : zrX Try.prog 16 = some [.v (.pointer none)] := by kernel_rfl
theorem zrO_16 : zrO Try.prog 16 = some [.v (.pointer none)] := by kernel_rfl
theorem knO_16 : knO Try.prog 16 = true := by kernel_rfl
theorem agO_17 : aggO Try.prog 17 = some false := by kernel_rfl
theorem szO_17 : szO Try.prog 17 = some 1 := by kernel_rfl
theorem zrX_17 : zrX Try.prog 17 = some [.v (.pointer none)] := by kernel_rfl
theorem zrO_17 : zrO Try.prog 17 = some [.v (.pointer none)] := by kernel_rfl
theorem knO_17 : knO Try.prog 17 = true := by kernel_rfl
theorem agO_18 : aggO Try.prog 18 = some true := by kernel_rfl
theorem szO_18 : szO Try.prog 18 = some 1 := by kernel_rfl
theorem zrX_18 : zrX Try.prog 18 = some [.v (.pointer none)] := by kernel_rfl
theorem zrO_18 : zrO Try.prog 18 = some [.v (.pointer none)] := by kernel_rfl
theorem plO_18 : plO Try.prog 18 = some [(0, 1)] := by kernel_rfl
theorem fdO_18_0 : fdO Try.prog 18 0 = some (0, 1) := by kernel_rfl
theorem knO_18 : knO Try.prog 18 = true := by kernel_rfl
theorem agO_19 : aggO Try.prog 19 = some true := by kernel_rfl
theorem szO_19 : szO Try.prog 19 = some 1 := by kernel_rfl
theorem zrX_19 : zrX Try.prog 19 = some [.v (.pointer none)] := by kernel_rfl
theorem zrO_19 : zrO Try.prog 19 = some [.v (.pointer none)] := by kernel_rfl
theorem plO_19 : plO Try.prog 19 = some [(0, 1)] := by kernel_rfl
theorem fdO_19_0 : fdO Try.prog 19 0 = some (0, 1) := by kernel_rfl
theorem knO_19 : knO Try.prog 19 = true := by kernel_rfl
theorem agO_21 : aggO Try.prog 21 = some false := by kernel_rfl
theorem szO_21 : szO Try.prog 21 = some 1 := by kernel_rfl
theorem zrX_21 : zrX Try.prog 21 = some [.v (.int .i32 0)] := by kernel_rfl
theorem zrO_21 : zrO Try.prog 21 = some [.v (.int .i32 0)] := by kernel_rfl
theorem kdT_21 : kdT Try.prog 21 = some 1 := by kernel_rfl
theorem knO_21 : knO Try.prog 21 = true := by kernel_rfl
theorem inO_21 : inO Try.prog 21 = some .i32 := by kernel_rfl
theorem agO_22 : aggO Try.prog 22 = some false := by kernel_rfl
theorem szO_22 : szO Try.prog 22 = some 1 := by kernel_rfl
theorem zrX_22 : zrX Try.prog 22 = some [.sl 0 0 0 (some 0) 0] := by kernel_rfl
theorem zrO_22 : zrO Try.prog 22 = some [.sl 0 0 0 (some 0) 0] := by kernel_rfl
theorem elX_22 : elX Try.prog 22 = some (5, 1, 1) := by kernel_rfl
theorem elO_22 : elO Try.prog 22 = some 5 := by kernel_rfl
theorem slO_22 : slO Try.prog 22 = some (some 1) := by kernel_rfl
theorem u8O_22 : u8O Try.prog 22 = true := by kernel_rfl
theorem knO_22 : knO Try.prog 22 = true := by kernel_rfl
theorem agO_23 : aggO Try.prog 23 = some false := by kernel_rfl
theorem szO_23 : szO Try.prog 23 = some 1 := by kernel_rfl
theorem zrX_23 : zrX Try.prog 23 = some [.sl 0 0 0 (some 0) 0] := by kernel_rfl
theorem zrO_23 : zrO Try.prog 23 = some [.sl 0 0 0 (some 0) 0] := by kernel_rfl
theorem elX_23 : elX Try.prog 23 = some (133, 2, 24) := by kernel_rfl
theorem elO_23 : elO Try.prog 23 = some 133 := by kernel_rfl
theorem slO_23 : slO Try.prog 23 = some (some 2) := by kernel_rfl
theorem u8O_23 : u8O Try.prog 23 = false := by kernel_rfl
theorem knO_23 : knO Try.prog 23 = true := by kernel_rfl
theorem agO_24 : aggO Try.prog 24 = some true := by kernel_rfl
theorem szO_24 : szO Try.prog 24 = some 2 := by kernel_rfl
theorem zrX_24 : zrX Try.prog 24 = some [.sl 0 0 0 (some 0) 0, .v (.int .i64 0)] := by kernel_rfl
theorem zrO_24 : zrO Try.prog 24 = some [.sl 0 0 0 (some 0) 0, .v (.int .i64 0)] := by kernel_rfl
theorem plO_24 : plO Try.prog 24 = some [(0, 1), (1, 1)] := by kernel_rfl
theorem fdO_24_0 : fdO Try.prog 24 0 = some (0, 1) := by kernel_rfl
theorem fdO_24_1 : fdO Try.prog 24 1 = some (1, 1) := by kernel_rfl
theorem knO_24 : knO Try.prog 24 = true := by kernel_rfl
theorem agO_25 : aggO Try.prog 25 = some true := by kernel_rfl
theorem szO_25 : szO Try.prog 25 = some 2 := by kernel_rfl
theorem zrX_25 : zrX Try.prog 25 = some [.sl 0 0 0 (some 0) 0, .v (.int .i64 0)] := by kernel_rfl
theorem zrO_25 : zrO Try.prog 25 = some [.sl 0 0 0 (some 0) 0, .v (.int .i64 0)] := by kernel_rfl
theorem plO_25 : plO Try.prog 25 = some [(0, 1), (1, 1)] := by kernel_rfl
theorem fdO_25_0 : fdO Try.prog 25 0 = some (0, 1) := by kernel_rfl
theorem fdO_25_1 : fdO Try.prog 25 1 = some (1, 1) := by kernel_rfl
theorem knO_25 : knO Try.prog 25 = true := by kernel_rfl
theorem agO_26 : aggO Try.prog 26 = some true := by kernel_rfl
theorem szO_26 : szO Try.prog 26 = some 2 := by kernel_rfl
theorem zrX_26 : zrX Try.prog 26 = some [.v (.int .i64 0), .v (.int .i64 0)] := by kernel_rfl
theorem zrO_26 : zrO Try.prog 26 = some [.v (.int .i64 0), .v (.int .i64 0)] := by kernel_rfl
theorem plO_26 : plO Try.prog 26 = some [(0, 1), (1, 1)] := by kernel_rfl
theorem fdO_26_0 : fdO Try.prog 26 0 = some (0, 1) := by kernel_rfl
theorem fdO_26_1 : fdO Try.prog 26 1 = some (1, 1) := by kernel_rfl
theorem knO_26 : knO Try.prog 26 = true := by kernel_rfl
theorem agO_27 : aggO Try.prog 27 = some true := by kernel_rfl
theorem szO_27 : szO Try.prog 27 = some 2 := by kernel_rfl
theorem zrX_27 : zrX Try.prog 27 = some [.v (.int .i64 0), .v (.int .i64 0)] := by kernel_rfl
theorem zrO_27 : zrO Try.prog 27 = some [.v (.int .i64 0), .v (.int .i64 0)] := by kernel_rfl
theorem plO_27 : plO Try.prog 27 = some [(0, 1), (1, 1)] := by kernel_rfl
theorem fdO_27_0 : fdO Try.prog 27 0 = some (0, 1) := by kernel_rfl
theorem fdO_27_1 : fdO Try.prog 27 1 = some (1, 1) := by kernel_rfl
theorem kdO_27 : kdO Try.prog 27 = some [1, 1] := by kernel_rfl
theorem knO_27 : knO Try.prog 27 = true := by kernel_rfl
theorem agO_35 : aggO Try.prog 35 = some false := by kernel_rfl
theorem szO_35 : szO Try.prog 35 = some 1 := by kernel_rfl
theorem zrX_35 : zrX Try.prog 35 = some [.sl 0 0 0 (some 0) 0] := by kernel_rfl
theorem zrO_35 : zrO Try.prog 35 = some [.sl 0 0 0 (some 0) 0] := by kernel_rfl
theorem elX_35 : elX Try.prog 35 = some (132, 2, 24) := by kernel_rfl
theorem elO_35 : elO Try.prog 35 = some 132 := by kernel_rfl
theorem slO_35 : slO Try.prog 35 = some (some 2) := by kernel_rfl
theorem u8O_35 : u8O Try.prog 35 = false := by kernel_rfl
theorem knO_35 : knO Try.prog 35 = true := by kernel_rfl
theorem agO_36 : aggO Try.prog 36 = some true := by kernel_rfl
theorem szO_36 : szO Try.prog 36 = some 2 := by kernel_rfl
theorem zrX_36 : zrX Try.prog 36 = some [.sl 0 0 0 (some 0) 0, .v (.int .i64 0)] := by kernel_rfl
theorem zrO_36 : zrO Try.prog 36 = some [.sl 0 0 0 (some 0) 0, .v (.int .i64 0)] := by kernel_rfl
theorem plO_36 : plO Try.prog 36 = some [(0, 1), (1, 1)] := by kernel_rfl
theorem fdO_36_0 : fdO Try.prog 36 0 = some (0, 1) := by kernel_rfl
theorem fdO_36_1 : fdO Try.prog 36 1 = some (1, 1) := by kernel_rfl
theorem knO_36 : knO Try.prog 36 = true := by kernel_rfl
theorem agO_37 : aggO Try.prog 37 = some true := by kernel_rfl
theorem szO_37 : szO Try.prog 37 = some 2 := by kernel_rfl
theorem zrX_37 : zrX Try.prog 37 = some [.sl 0 0 0 (some 0) 0, .v (.int .i64 0)] := by kernel_rfl
theorem zrO_37 : zrO Try.prog 37 = some [.sl 0 0 0 (some 0) 0, .v (.int .i64 0)] := by kernel_rfl
theorem plO_37 : plO Try.prog 37 = some [(0, 1), (1, 1)] := by kernel_rfl
theorem fdO_37_0 : fdO Try.prog 37 0 = some (0, 1) := by kernel_rfl
theorem fdO_37_1 : fdO Try.prog 37 1 = some (1, 1) := by kernel_rfl
theorem knO_37 : knO Try.prog 37 = true := by kernel_rfl
theorem agO_38 : aggO Try.prog 38 = some true := by kernel_rfl
theorem szO_38 : szO Try.prog 38 = some 2 := by kernel_rfl
theorem zrX_38 : zrX Try.prog 38 = some [.v (.int .i64 0), .v (.int .i64 0)] := by kernel_rfl
theorem zrO_38 : zrO Try.prog 38 = some [.v (.int .i64 0), .v (.int .i64 0)] := by kernel_rfl
theorem plO_38 : plO Try.prog 38 = some [(0, 1), (1, 1)] := by kernel_rfl
theorem fdO_38_0 : fdO Try.prog 38 0 = some (0, 1) := by kernel_rfl
theorem fdO_38_1 : fdO Try.prog 38 1 = some (1, 1) := by kernel_rfl
theorem kdO_38 : kdO Try.prog 38 = some [1, 1] := by kernel_rfl
theorem knO_38 : knO Try.prog 38 = true := by kernel_rfl
theorem agO_53 : aggO Try.prog 53 = some false := by kernel_rfl
theorem szO_53 : szO Try.prog 53 = some 1 := by kernel_rfl
theorem zrX_53 : zrX Try.prog 53 = some [.sl 0 0 0 (some 0) 0] := by kernel_rfl
theorem zrO_53 : zrO Try.prog 53 = some [.sl 0 0 0 (some 0) 0] := by kernel_rfl
theorem elX_53 : elX Try.prog 53 = some (38, 2, 16) := by kernel_rfl
theorem elO_53 : elO Try.prog 53 = some 38 := by kernel_rfl
theorem slO_53 : slO Try.prog 53 = some (some 2) := by kernel_rfl
theorem u8O_53 : u8O Try.prog 53 = false := by kernel_rfl
theorem knO_53 : knO Try.prog 53 = true := by kernel_rfl
theorem agO_56 : aggO Try.prog 56 = some false := by kernel_rfl
theorem szO_56 : szO Try.prog 56 = some 1 := by kernel_rfl
theorem zrX_56 : zrX Try.prog 56 = some [.sl 0 0 0 (some 0) 0] := by kernel_rfl
theorem zrO_56 : zrO Try.prog 56 = some [.sl 0 0 0 (some 0) 0] := by kernel_rfl
theorem elX_56 : elX Try.prog 56 = some (27, 2, 16) := by kernel_rfl
theorem elO_56 : elO Try.prog 56 = some 27 := by kernel_rfl
theorem slO_56 : slO Try.prog 56 = some (some 2) := by kernel_rfl
theorem u8O_56 : u8O Try.prog 56 = false := by kernel_rfl
theorem knO_56 : knO Try.prog 56 = true := by kernel_rfl
theorem agO_64 : aggO Try.prog 64 = some false := by kernel_rfl
theorem szO_64 : szO Try.prog 64 = some 1 := by kernel_rfl
theorem zrX_64 : zrX Try.prog 64 = some [.sl 0 0 0 (some 0) 0] := by kernel_rfl
theorem zrO_64 : zrO Try.prog 64 = some [.sl 0 0 0 (some 0) 0] := by kernel_rfl
theorem elX_64 : elX Try.prog 64 = some (9, 1, 16) := by kernel_rfl
theorem elO_64 : elO Try.prog 64 = some 9 := by kernel_rfl
theorem slO_64 : slO Try.prog 64 = some (some 1) := by kernel_rfl
theorem u8O_64 : u8O Try.prog 64 = false := by kernel_rfl
theorem knO_64 : knO Try.prog 64 = true := by kernel_rfl
theorem agO_72 : aggO Try.prog 72 = some true := by kernel_rfl
theorem szO_72 : szO Try.prog 72 = some 1 := by kernel_rfl
theorem zrX_72 : zrX Try.prog 72 = some [.sl 0 0 0 (some 0) 0] := by kernel_rfl
theorem zrO_72 : zrO Try.prog 72 = some [.sl 0 0 0 (some 0) 0] := by kernel_rfl
theorem plO_72 : plO Try.prog 72 = some [(0, 1)] := by kernel_rfl
theorem fdO_72_0 : fdO Try.prog 72 0 = some (0, 1) := by kernel_rfl
theorem knO_72 : knO Try.prog 72 = true := by kernel_rfl
theorem agO_73 : aggO Try.prog 73 = some true := by kernel_rfl
theorem szO_73 : szO Try.prog 73 = some 1 := by kernel_rfl
theorem zrX_73 : zrX Try.prog 73 = some [.sl 0 0 0 (some 0) 0] := by kernel_rfl
theorem zrO_73 : zrO Try.prog 73 = some [.sl 0 0 0 (some 0) 0] := by kernel_rfl
theorem plO_73 : plO Try.prog 73 = some [(0, 1)] := by kernel_rfl
theorem fdO_73_0 : fdO Try.prog 73 0 = some (0, 1) := by kernel_rfl
theorem knO_73 : knO Try.prog 73 = true := by kernel_rfl
theorem agO_76 : aggO Try.prog 76 = some true := by kernel_rfl
theorem szO_76 : szO Try.prog 76 = some 1 := by kernel_rfl
theorem zrX_76 : zrX Try.prog 76 = some [.sl 0 0 0 (some 0) 0] := by kernel_rfl
theorem zrO_76 : zrO Try.prog 76 = some [.sl 0 0 0 (some 0) 0] := by kernel_rfl
theorem plO_76 : plO Try.prog 76 = some [(0, 1)] := by kernel_rfl
theorem fdO_76_0 : fdO Try.prog 76 0 = some (0, 1) := by kernel_rfl
theorem knO_76 : knO Try.prog 76 = true := by kernel_rfl
theorem agO_77 : aggO Try.prog 77 = some true := by kernel_rfl
theorem szO_77 : szO Try.prog 77 = some 1 := by kernel_rfl
theorem zrX_77 : zrX Try.prog 77 = some [.sl 0 0 0 (some 0) 0] := by kernel_rfl
theorem zrO_77 : zrO Try.prog 77 = some [.sl 0 0 0 (some 0) 0] := by kernel_rfl
theorem plO_77 : plO Try.prog 77 = some [(0, 1)] := by kernel_rfl
theorem fdO_77_0 : fdO Try.prog 77 0 = some (0, 1) := by kernel_rfl
theorem knO_77 : knO Try.prog 77 = true := by kernel_rfl
theorem agO_87 : aggO Try.prog 87 = some false := by kernel_rfl
theorem szO_87 : szO Try.prog 87 = some 1 := by kernel_rfl
theorem zrX_87 : zrX Try.prog 87 = some [.v (.pointer none)] := by kernel_rfl
theorem zrO_87 : zrO Try.prog 87 = some [.v (.pointer none)] := by kernel_rfl
theorem knO_87 : knO Try.prog 87 = true := by kernel_rfl
theorem agO_98 : aggO Try.prog 98 = some false := by kernel_rfl
theorem szO_98 : szO Try.prog 98 = some 1 := by kernel_rfl
theorem zrX_98 : zrX Try.prog 98 = some [.v (.int .u64 0)] := by kernel_rfl
theorem zrO_98 : zrO Try.prog 98 = some [.v (.int .u64 0)] := by kernel_rfl
theorem kdT_98 : kdT Try.prog 98 = some 1 := by kernel_rfl
theorem knO_98 : knO Try.prog 98 = true := by kernel_rfl
theorem inO_98 : inO Try.prog 98 = some .u64 := by kernel_rfl
theorem agO_112 : aggO Try.prog 112 = some false := by kernel_rfl
theorem szO_112 : szO Try.prog 112 = some 1 := by kernel_rfl
theorem zrX_112 : zrX Try.prog 112 = some [.sl 0 0 0 (some 0) 0] := by kernel_rfl
theorem zrO_112 : zrO Try.prog 112 = some [.sl 0 0 0 (some 0) 0] := by kernel_rfl
theorem elX_112 : elX Try.prog 112 = some (3, 1, 8) := by kernel_rfl
theorem elO_112 : elO Try.prog 112 = some 3 := by kernel_rfl
theorem slO_112 : slO Try.prog 112 = some (some 1) := by kernel_rfl
theorem u8O_112 : u8O Try.prog 112 = false := by kernel_rfl
theorem knO_112 : knO Try.prog 112 = true := by kernel_rfl
theorem agO_127 : aggO Try.prog 127 = some true := by kernel_rfl
theorem szO_127 : szO Try.prog 127 = some 2 := by kernel_rfl
theorem zrX_127 : zrX Try.prog 127 = some [.sl 0 0 0 (some 0) 0, .v (.int .i64 0)] := by kernel_rfl
theorem zrO_127 : zrO Try.prog 127 = some [.sl 0 0 0 (some 0) 0, .v (.int .i64 0)] := by kernel_rfl
theorem plO_127 : plO Try.prog 127 = some [(0, 1), (1, 1)] := by kernel_rfl
theorem fdO_127_0 : fdO Try.prog 127 0 = some (0, 1) := by kernel_rfl
theorem fdO_127_1 : fdO Try.prog 127 1 = some (1, 1) := by kernel_rfl
theorem knO_127 : knO Try.prog 127 = true := by kernel_rfl
theorem agO_128 : aggO Try.prog 128 = some true := by kernel_rfl
theorem szO_128 : szO Try.prog 128 = some 2 := by kernel_rfl
theorem zrX_128 : zrX Try.prog 128 = some [.sl 0 0 0 (some 0) 0, .v (.int .i64 0)] := by kernel_rfl
theorem zrO_128 : zrO Try.prog 128 = some [.sl 0 0 0 (some 0) 0, .v (.int .i64 0)] := by kernel_rfl
theorem plO_128 : plO Try.prog 128 = some [(0, 1), (1, 1)] := by kernel_rfl
theorem fdO_128_0 : fdO Try.prog 128 0 = some (0, 1) := by kernel_rfl
theorem fdO_128_1 : fdO Try.prog 128 1 = some (1, 1) := by kernel_rfl
theorem knO_128 : knO Try.prog 128 = true := by kernel_rfl
theorem agO_131 : aggO Try.prog 131 = some true := by kernel_rfl
theorem szO_131 : szO Try.prog 131 = some 2 := by kernel_rfl
theorem zrX_131 : zrX Try.prog 131 = some [.v (.string ByteArray.empty), .v (.int .i64 0)] := by kernel_rfl
theorem zrO_131 : zrO Try.prog 131 = some [.v (.string ByteArray.empty), .v (.int .i64 0)] := by kernel_rfl
theorem plO_131 : plO Try.prog 131 = some [(0, 1), (1, 1)] := by kernel_rfl
theorem fdO_131_0 : fdO Try.prog 131 0 = some (0, 1) := by kernel_rfl
theorem fdO_131_1 : fdO Try.prog 131 1 = some (1, 1) := by kernel_rfl
theorem knO_131 : knO Try.prog 131 = true := by kernel_rfl
theorem agO_132 : aggO Try.prog 132 = some true := by kernel_rfl
theorem szO_132 : szO Try.prog 132 = some 2 := by kernel_rfl
theorem zrX_132 : zrX Try.prog 132 = some [.v (.string ByteArray.empty), .v (.int .i64 0)] := by kernel_rfl
theorem zrO_132 : zrO Try.prog 132 = some [.v (.string ByteArray.empty), .v (.int .i64 0)] := by kernel_rfl
theorem plO_132 : plO Try.prog 132 = some [(0, 1), (1, 1)] := by kernel_rfl
theorem fdO_132_0 : fdO Try.prog 132 0 = some (0, 1) := by kernel_rfl
theorem fdO_132_1 : fdO Try.prog 132 1 = some (1, 1) := by kernel_rfl
theorem kdO_132 : kdO Try.prog 132 = some [2, 1] := by kernel_rfl
theorem knO_132 : knO Try.prog 132 = true := by kernel_rfl
theorem agO_133 : aggO Try.prog 133 = some true := by kernel_rfl
theorem szO_133 : szO Try.prog 133 = some 2 := by kernel_rfl
theorem zrX_133 : zrX Try.prog 133 = some [.v (.string ByteArray.empty), .v (.int .i64 0)] := by kernel_rfl
theorem zrO_133 : zrO Try.prog 133 = some [.v (.string ByteArray.empty), .v (.int .i64 0)] := by kernel_rfl
theorem plO_133 : plO Try.prog 133 = some [(0, 1), (1, 1)] := by kernel_rfl
theorem fdO_133_0 : fdO Try.prog 133 0 = some (0, 1) := by kernel_rfl
theorem fdO_133_1 : fdO Try.prog 133 1 = some (1, 1) := by kernel_rfl
theorem kdO_133 : kdO Try.prog 133 = some [2, 1] := by kernel_rfl
theorem knO_133 : knO Try.prog 133 = true := by kernel_rfl
theorem agO_136 : aggO Try.prog 136 = some false := by kernel_rfl
theorem szO_136 : szO Try.prog 136 = some 1 := by kernel_rfl
theorem zrX_136 : zrX Try.prog 136 = some [.v (.int .u32 0)] := by kernel_rfl
theorem zrO_136 : zrO Try.prog 136 = some [.v (.int .u32 0)] := by kernel_rfl
theorem kdT_136 : kdT Try.prog 136 = some 1 := by kernel_rfl
theorem knO_136 : knO Try.prog 136 = true := by kernel_rfl
theorem inO_136 : inO Try.prog 136 = some .u32 := by kernel_rfl
theorem agO_138 : aggO Try.prog 138 = some false := by kernel_rfl
theorem szO_138 : szO Try.prog 138 = some 1 := by kernel_rfl
theorem zrX_138 : zrX Try.prog 138 = some [.v (.int .u64 0)] := by kernel_rfl
theorem zrO_138 : zrO Try.prog 138 = some [.v (.int .u64 0)] := by kernel_rfl
theorem kdT_138 : kdT Try.prog 138 = some 1 := by kernel_rfl
theorem knO_138 : knO Try.prog 138 = true := by kernel_rfl
theorem inO_138 : inO Try.prog 138 = some .u64 := by kernel_rfl
theorem agO_156 : aggO Try.prog 156 = some true := by kernel_rfl
theorem szO_156 : szO Try.prog 156 = some 4 := by kernel_rfl
theorem zrX_156 : zrX Try.prog 156 = some [.v (.pointer none), .v (.pointer none), .v (.pointer none), .v (.string ByteArray.empty)] := by kernel_rfl
theorem zrO_156 : zrO Try.prog 156 = some [.v (.pointer none), .v (.pointer none), .v (.pointer none), .v (.string ByteArray.empty)] := by kernel_rfl
theorem plO_156 : plO Try.prog 156 = some [(0, 1), (1, 1), (2, 1), (3, 1)] := by kernel_rfl
theorem fdO_156_0 : fdO Try.prog 156 0 = some (0, 1) := by kernel_rfl
theorem fdO_156_1 : fdO Try.prog 156 1 = some (1, 1) := by kernel_rfl
theorem fdO_156_2 : fdO Try.prog 156 2 = some (2, 1) := by kernel_rfl
theorem fdO_156_3 : fdO Try.prog 156 3 = some (3, 1) := by kernel_rfl
theorem knO_156 : knO Try.prog 156 = true := by kernel_rfl
theorem agO_157 : aggO Try.prog 157 = some true := by kernel_rfl
theorem szO_157 : szO Try.prog 157 = some 4 := by kernel_rfl
theorem zrX_157 : zrX Try.prog 157 = some [.v (.pointer none), .v (.pointer none), .v (.pointer none), .v (.string ByteArray.empty)] := by kernel_rfl
theorem zrO_157 : zrO Try.prog 157 = some [.v (.pointer none), .v (.pointer none), .v (.pointer none), .v (.string ByteArray.empty)] := by kernel_rfl
theorem plO_157 : plO Try.prog 157 = some [(0, 1), (1, 1), (2, 1), (3, 1)] := by kernel_rfl
theorem fdO_157_0 : fdO Try.prog 157 0 = some (0, 1) := by kernel_rfl
theorem fdO_157_1 : fdO Try.prog 157 1 = some (1, 1) := by kernel_rfl
theorem fdO_157_2 : fdO Try.prog 157 2 = some (2, 1) := by kernel_rfl
theorem fdO_157_3 : fdO Try.prog 157 3 = some (3, 1) := by kernel_rfl
theorem knO_157 : knO Try.prog 157 = true := by kernel_rfl
theorem agO_159 : aggO Try.prog 159 = some true := by kernel_rfl
theorem szO_159 : szO Try.prog 159 = some 0 := by kernel_rfl
theorem zrX_159 : zrX Try.prog 159 = some [] := by kernel_rfl
theorem zrO_159 : zrO Try.prog 159 = some [] := by kernel_rfl
theorem plO_159 : plO Try.prog 159 = some [(0, 0)] := by kernel_rfl
theorem knO_159 : knO Try.prog 159 = true := by kernel_rfl
theorem agO_160 : aggO Try.prog 160 = some true := by kernel_rfl
theorem szO_160 : szO Try.prog 160 = some 0 := by kernel_rfl
theorem zrX_160 : zrX Try.prog 160 = some [] := by kernel_rfl
theorem zrO_160 : zrO Try.prog 160 = some [] := by kernel_rfl
theorem plO_160 : plO Try.prog 160 = some [(0, 0)] := by kernel_rfl
theorem knO_160 : knO Try.prog 160 = true := by kernel_rfl
theorem agO_161 : aggO Try.prog 161 = some false := by kernel_rfl
theorem szO_161 : szO Try.prog 161 = some 1 := by kernel_rfl
theorem zrX_161 : zrX Try.prog 161 = some [.v (.int .u8 0)] := by kernel_rfl
theorem zrO_161 : zrO Try.prog 161 = some [.v (.int .u8 0)] := by kernel_rfl
theorem kdT_161 : kdT Try.prog 161 = some 1 := by kernel_rfl
theorem knO_161 : knO Try.prog 161 = true := by kernel_rfl
theorem inO_161 : inO Try.prog 161 = some .u8 := by kernel_rfl
theorem agO_162 : aggO Try.prog 162 = some false := by kernel_rfl
theorem szO_162 : szO Try.prog 162 = some 1 := by kernel_rfl
theorem zrX_162 : zrX Try.prog 162 = some [.v (.int .u8 0)] := by kernel_rfl
theorem zrO_162 : zrO Try.prog 162 = some [.v (.int .u8 0)] := by kernel_rfl
theorem kdT_162 : kdT Try.prog 162 = some 1 := by kernel_rfl
theorem knO_162 : knO Try.prog 162 = true := by kernel_rfl
theorem inO_162 : inO Try.prog 162 = some .u8 := by kernel_rfl
theorem agO_164 : aggO Try.prog 164 = some false := by kernel_rfl
theorem szO_164 : szO Try.prog 164 = some 1 := by kernel_rfl
theorem zrX_164 : zrX Try.prog 164 = some [.v (.pointer none)] := by kernel_rfl
theorem zrO_164 : zrO Try.prog 164 = some [.v (.pointer none)] := by kernel_rfl
theorem knO_164 : knO Try.prog 164 = true := by kernel_rfl
theorem agO_165 : aggO Try.prog 165 = some false := by kernel_rfl
theorem szO_165 : szO Try.prog 165 = some 1 := by kernel_rfl
theorem zrX_165 : zrX Try.prog 165 = some [.v (.int .i32 0)] := by kernel_rfl
theorem zrO_165 : zrO Try.prog 165 = some [.v (.int .i32 0)] := by kernel_rfl
theorem kdT_165 : kdT Try.prog 165 = some 1 := by kernel_rfl
theorem knO_165 : knO Try.prog 165 = true := by kernel_rfl
theorem inO_165 : inO Try.prog 165 = some .i32 := by kernel_rfl
theorem agO_166 : aggO Try.prog 166 = some false := by kernel_rfl
theorem szO_166 : szO Try.prog 166 = some 1 := by kernel_rfl
theorem zrX_166 : zrX Try.prog 166 = some [.v (.int .i32 0)] := by kernel_rfl
theorem zrO_166 : zrO Try.prog 166 = some [.v (.int .i32 0)] := by kernel_rfl
theorem kdT_166 : kdT Try.prog 166 = some 1 := by kernel_rfl
theorem knO_166 : knO Try.prog 166 = true := by kernel_rfl
theorem inO_166 : inO Try.prog 166 = some .i32 := by kernel_rfl
theorem agO_167 : aggO Try.prog 167 = some true := by kernel_rfl
theorem szO_167 : szO Try.prog 167 = some 11 := by kernel_rfl
theorem zrX_167 : zrX Try.prog 167 = some [.v (.int .u64 0), .v (.int .u64 0), .v (.int .u32 0), .v (.int .u8 0), .v (.int .u8 0), .v (.int .u8 0), .v (.int .u8 0), .v .nilFunc, .v (.pointer none), .v (.int .i32 0), .v (.int .i32 0)] := by kernel_rfl
theorem zrO_167 : zrO Try.prog 167 = some [.v (.int .u64 0), .v (.int .u64 0), .v (.int .u32 0), .v (.int .u8 0), .v (.int .u8 0), .v (.int .u8 0), .v (.int .u8 0), .v .nilFunc, .v (.pointer none), .v (.int .i32 0), .v (.int .i32 0)] := by kernel_rfl
theorem plO_167 : plO Try.prog 167 = some [(0, 1), (1, 1), (2, 1), (3, 1), (4, 1), (5, 1), (6, 1), (7, 1), (8, 1), (9, 1), (10, 1)] := by kernel_rfl
theorem fdO_167_0 : fdO Try.prog 167 0 = some (0, 1) := by kernel_rfl
theorem fdO_167_1 : fdO Try.prog 167 1 = some (1, 1) := by kernel_rfl
theorem fdO_167_2 : fdO Try.prog 167 2 = some (2, 1) := by kernel_rfl
theorem fdO_167_3 : fdO Try.prog 167 3 = some (3, 1) := by kernel_rfl
theorem fdO_167_4 : fdO Try.prog 167 4 = some (4, 1) := by kernel_rfl
theorem fdO_167_5 : fdO Try.prog 167 5 = some (5, 1) := by kernel_rfl
theorem fdO_167_6 : fdO Try.prog 167 6 = some (6, 1) := by kernel_rfl
theorem fdO_167_7 : fdO Try.prog 167 7 = some (7, 1) := by kernel_rfl
theorem fdO_167_8 : fdO Try.prog 167 8 = some (8, 1) := by kernel_rfl
theorem fdO_167_9 : fdO Try.prog 167 9 = some (9, 1) := by kernel_rfl
theorem fdO_167_10 : fdO Try.prog 167 10 = some (10, 1) := by kernel_rfl
theorem knO_167 : knO Try.prog 167 = true := by kernel_rfl
theorem agO_168 : aggO Try.prog 168 = some true := by kernel_rfl
theorem szO_168 : szO Try.prog 168 = some 11 := by kernel_rfl
theorem zrX_168 : zrX Try.prog 168 = some [.v (.int .u64 0), .v (.int .u64 0), .v (.int .u32 0), .v (.int .u8 0), .v (.int .u8 0), .v (.int .u8 0), .v (.int .u8 0), .v .nilFunc, .v (.pointer none), .v (.int .i32 0), .v (.int .i32 0)] := by kernel_rfl
theorem zrO_168 : zrO Try.prog 168 = some [.v (.int .u64 0), .v (.int .u64 0), .v (.int .u32 0), .v (.int .u8 0), .v (.int .u8 0), .v (.int .u8 0), .v (.int .u8 0), .v .nilFunc, .v (.pointer none), .v (.int .i32 0), .v (.int .i32 0)] := by kernel_rfl
theorem plO_168 : plO Try.prog 168 = some [(0, 1), (1, 1), (2, 1), (3, 1), (4, 1), (5, 1), (6, 1), (7, 1), (8, 1), (9, 1), (10, 1)] := by kernel_rfl
theorem fdO_168_0 : fdO Try.prog 168 0 = some (0, 1) := by kernel_rfl
theorem fdO_168_1 : fdO Try.prog 168 1 = some (1, 1) := by kernel_rfl
theorem fdO_168_2 : fdO Try.prog 168 2 = some (2, 1) := by kernel_rfl
theorem fdO_168_3 : fdO Try.prog 168 3 = some (3, 1) := by kernel_rfl
theorem fdO_168_4 : fdO Try.prog 168 4 = some (4, 1) := by kernel_rfl
theorem fdO_168_5 : fdO Try.prog 168 5 = some (5, 1) := by kernel_rfl
theorem fdO_168_6 : fdO Try.prog 168 6 = some (6, 1) := by kernel_rfl
theorem fdO_168_7 : fdO Try.prog 168 7 = some (7, 1) := by kernel_rfl
theorem fdO_168_8 : fdO Try.prog 168 8 = some (8, 1) := by kernel_rfl
theorem fdO_168_9 : fdO Try.prog 168 9 = some (9, 1) := by kernel_rfl
theorem fdO_168_10 : fdO Try.prog 168 10 = some (10, 1) := by kernel_rfl
theorem knO_168 : knO Try.prog 168 = true := by kernel_rfl
theorem ent_3 : Ent Try.prog 3 := ent_of Try.func3 (by kernel_rfl) rfl
theorem ent_4 : Ent Try.prog 4 := ent_of Try.func4 (by kernel_rfl) rfl
theorem ent_5 : Ent Try.prog 5 := ent_of Try.func5 (by kernel_rfl) rfl
theorem ent_6 : Ent Try.prog 6 := ent_of Try.func6 (by kernel_rfl) rfl
theorem ent_7 : Ent Try.prog 7 := ent_of Try.func7 (by kernel_rfl) rfl
theorem ent_8 : Ent Try.prog 8 := ent_of Try.func8 (by kernel_rfl) rfl
theorem ent_9 : Ent Try.prog 9 := ent_of Try.func9 (by kernel_rfl) rfl
theorem ent_10 : Ent Try.prog 10 := ent_of Try.func10 (by kernel_rfl) rfl
theorem ent_11 : Ent Try.prog 11 := ent_of Try.func11 (by kernel_rfl) rfl
theorem ent_12 : Ent Try.prog 12 := ent_of Try.func12 (by kernel_rfl) rfl
theorem ent_13 : Ent Try.prog 13 := ent_of Try.func13 (by kernel_rfl) rfl
theorem ent_14 : Ent Try.prog 14 := ent_of Try.func14 (by kernel_rfl) rfl
theorem ent_15 : Ent Try.prog 15 := ent_of Try.func15 (by kernel_rfl) rfl
theorem ent_16 : Ent Try.prog 16 := ent_of Try.func16 (by kernel_rfl) rfl
theorem ent_17 : Ent Try.prog 17 := ent_of Try.func17 (by kernel_rfl) rfl
theorem ent_18 : Ent Try.prog 18 := ent_of Try.func18 (by kernel_rfl) rfl
theorem ent_19 : Ent Try.prog 19 := ent_of Try.func19 (by kernel_rfl) rfl
theorem ent_20 : Ent Try.prog 20 := ent_of Try.func20 (by kernel_rfl) rfl
theorem ent_21 : Ent Try.prog 21 := ent_of Try.func21 (by kernel_rfl) rfl
theorem ent_22 : Ent Try.prog 22 := ent_of Try.func22 (by kernel_rfl) rfl
theorem ent_23 : Ent Try.prog 23 := ent_of Try.func23 (by kernel_rfl) rfl
theorem ent_24 : Ent Try.prog 24 := ent_of Try.func24 (by kernel_rfl) rfl
theorem ent_25 : Ent Try.prog 25 := ent_of Try.func25 (by kernel_rfl) rfl
theorem ent_26 : Ent Try.prog 26 := ent_of Try.func26 (by kernel_rfl) rfl
theorem ent_27 : Ent Try.prog 27 := ent_of Try.func27 (by kernel_rfl) rfl
theorem ent_28 : Ent Try.prog 28 := ent_of Try.func28 (by kernel_rfl) rfl
theorem ent_29 : Ent Try.prog 29 := ent_of Try.func29 (by kernel_rfl) rfl
theorem ent_30 : Ent Try.prog 30 := ent_of Try.func30 (by kernel_rfl) rfl
theorem ent_31 : Ent Try.prog 31 := ent_of Try.func31 (by kernel_rfl) rfl
theorem ent_32 : Ent Try.prog 32 := ent_of Try.func32 (by kernel_rfl) rfl
theorem ent_33 : Ent Try.prog 33 := ent_of Try.func33 (by kernel_rfl) rfl
theorem ent_34 : Ent Try.prog 34 := ent_of Try.func34 (by kernel_rfl) rfl
theorem ent_35 : Ent Try.prog 35 := ent_of Try.func35 (by kernel_rfl) rfl
theorem ent_36 : Ent Try.prog 36 := ent_of Try.func36 (by kernel_rfl) rfl
theorem ent_37 : Ent Try.prog 37 := ent_of Try.func37 (by kernel_rfl) rfl
theorem ent_38 : Ent Try.prog 38 := ent_of Try.func38 (by kernel_rfl) rfl
theorem ent_39 : Ent Try.prog 39 := ent_of Try.func39 (by kernel_rfl) rfl
theorem ent_40 : Ent Try.prog 40 := ent_of Try.func40 (by kernel_rfl) rfl
theorem ent_41 : Ent Try.prog 41 := ent_of Try.func41 (by kernel_rfl) rfl
theorem ent_42 : Ent Try.prog 42 := ent_of Try.func42 (by kernel_rfl) rfl
theorem ent_43 : Ent Try.prog 43 := ent_of Try.func43 (by kernel_rfl) rfl
theorem ent_44 : Ent Try.prog 44 := ent_of Try.func44 (by kernel_rfl) rfl
theorem ent_45 : Ent Try.prog 45 := ent_of Try.func45 (by kernel_rfl) rfl
theorem ent_46 : Ent Try.prog 46 := ent_of Try.func46 (by kernel_rfl) rfl
theorem ent_47 : Ent Try.prog 47 := ent_of Try.func47 (by kernel_rfl) rfl
theorem ent_48 : Ent Try.prog 48 := ent_of Try.func48 (by kernel_rfl) rfl
theorem ent_49 : Ent Try.prog 49 := ent_of Try.func49 (by kernel_rfl) rfl
theorem ent_50 : Ent Try.prog 50 := ent_of Try.func50 (by kernel_rfl) rfl
theorem ent_51 : Ent Try.prog 51 := ent_of Try.func51 (by kernel_rfl) rfl
theorem ent_52 : Ent Try.prog 52 := ent_of Try.func52 (by kernel_rfl) rfl
theorem ent_53 : Ent Try.prog 53 := ent_of Try.func53 (by kernel_rfl) rfl
theorem ent_54 : Ent Try.prog 54 := ent_of Try.func54 (by kernel_rfl) rfl
theorem ent_55 : Ent Try.prog 55 := ent_of Try.func55 (by kernel_rfl) rfl
theorem ent_56 : Ent Try.prog 56 := ent_of Try.func56 (by kernel_rfl) rfl
theorem ent_57 : Ent Try.prog 57 := ent_of Try.func57 (by kernel_rfl) rfl
theorem ent_58 : Ent Try.prog 58 := ent_of Try.func58 (by kernel_rfl) rfl
theorem ent_59 : Ent Try.prog 59 := ent_of Try.func59 (by kernel_rfl) rfl
theorem ent_60 : Ent Try.prog 60 := ent_of Try.func60 (by kernel_rfl) rfl
theorem ent_61 : Ent Try.prog 61 := ent_of Try.func61 (by kernel_rfl) rfl
theorem ent_62 : Ent Try.prog 62 := ent_of Try.func62 (by kernel_rfl) rfl
theorem ent_63 : Ent Try.prog 63 := ent_of Try.func63 (by kernel_rfl) rfl
theorem ent_64 : Ent Try.prog 64 := ent_of Try.func64 (by kernel_rfl) rfl
theorem ent_65 : Ent Try.prog 65 := ent_of Try.func65 (by kernel_rfl) rfl
theorem ent_66 : Ent Try.prog 66 := ent_of Try.func66 (by kernel_rfl) rfl
theorem ent_67 : Ent Try.prog 67 := ent_of Try.func67 (by kernel_rfl) rfl
theorem ent_68 : Ent Try.prog 68 := ent_of Try.func68 (by kernel_rfl) rfl
theorem ent_69 : Ent Try.prog 69 := ent_of Try.func69 (by kernel_rfl) rfl
theorem ent_70 : Ent Try.prog 70 := ent_of Try.func70 (by kernel_rfl) rfl
theorem ent_71 : Ent Try.prog 71 := ent_of Try.func71 (by kernel_rfl) rfl
theorem ent_72 : Ent Try.prog 72 := ent_of Try.func72 (by kernel_rfl) rfl
theorem ent_73 : Ent Try.prog 73 := ent_of Try.func73 (by kernel_rfl) rfl
theorem ent_74 : Ent Try.prog 74 := ent_of Try.func74 (by kernel_rfl) rfl
theorem ent_75 : Ent Try.prog 75 := ent_of Try.func75 (by kernel_rfl) rfl
theorem ent_76 : Ent Try.prog 76 := ent_of Try.func76 (by kernel_rfl) rfl
theorem ent_77 : Ent Try.prog 77 := ent_of Try.func77 (by kernel_rfl) rfl
theorem ent_78 : Ent Try.prog 78 := ent_of Try.func78 (by kernel_rfl) rfl
theorem ent_79 : Ent Try.prog 79 := ent_of Try.func79 (by kernel_rfl) rfl
theorem ent_80 : Ent Try.prog 80 := ent_of Try.func80 (by kernel_rfl) rfl
theorem ent_81 : Ent Try.prog 81 := ent_of Try.func81 (by kernel_rfl) rfl
theorem ent_82 : Ent Try.prog 82 := ent_of Try.func82 (by kernel_rfl) rfl
theorem ent_83 : Ent Try.prog 83 := ent_of Try.func83 (by kernel_rfl) rfl
theorem ent_84 : Ent Try.prog 84 := ent_of Try.func84 (by kernel_rfl) rfl
theorem ent_85 : Ent Try.prog 85 := ent_of Try.func85 (by kernel_rfl) rfl
theorem ent_86 : Ent Try.prog 86 := ent_of Try.func86 (by kernel_rfl) rfl
theorem ent_87 : Ent Try.prog 87 := ent_of Try.func87 (by kernel_rfl) rfl
theorem ent_88 : Ent Try.prog 88 := ent_of Try.func88 (by kernel_rfl) rfl
theorem ent_89 : Ent Try.prog 89 := ent_of Try.func89 (by kernel_rfl) rfl
theorem ent_90 : Ent Try.prog 90 := ent_of Try.func90 (by kernel_rfl) rfl
theorem ent_91 : Ent Try.prog 91 := ent_of Try.func91 (by kernel_rfl) rfl
theorem ent_92 : Ent Try.prog 92 := ent_of Try.func92 (by kernel_rfl) rfl
theorem ent_93 : Ent Try.prog 93 := ent_of Try.func93 (by kernel_rfl) rfl
theorem ent_94 : Ent Try.prog 94 := ent_of Try.func94 (by kernel_rfl) rfl
theorem ent_95 : Ent Try.prog 95 := ent_of Try.func95 (by kernel_rfl) rfl
theorem ent_96 : Ent Try.prog 96 := ent_of Try.func96 (by kernel_rfl) rfl
theorem ent_97 : Ent Try.prog 97 := ent_of Try.func97 (by kernel_rfl) rfl
theorem ent_98 : Ent Try.prog 98 := ent_of Try.func98 (by kernel_rfl) rfl
theorem ent_99 : Ent Try.prog 99 := ent_of Try.func99 (by kernel_rfl) rfl
theorem ent_100 : Ent Try.prog 100 := ent_of Try.func100 (by kernel_rfl) rfl
theorem ent_101 : Ent Try.prog 101 := ent_of Try.func101 (by kernel_rfl) rfl
theorem ent_102 : Ent Try.prog 102 := ent_of Try.func102 (by kernel_rfl) rfl
theorem ent_103 : Ent Try.prog 103 := ent_of Try.func103 (by kernel_rfl) rfl
theorem ent_104 : Ent Try.prog 104 := ent_of Try.func104 (by kernel_rfl) rfl
theorem ent_105 : Ent Try.prog 105 := ent_of Try.func105 (by kernel_rfl) rfl
theorem ent_106 : Ent Try.prog 106 := ent_of Try.func106 (by kernel_rfl) rfl
theorem ent_107 : Ent Try.prog 107 := ent_of Try.func107 (by kernel_rfl) rfl
theorem ent_108 : Ent Try.prog 108 := ent_of Try.func108 (by kernel_rfl) rfl
theorem ent_109 : Ent Try.prog 109 := ent_of Try.func109 (by kernel_rfl) rfl
theorem ent_110 : Ent Try.prog 110 := ent_of Try.func110 (by kernel_rfl) rfl
theorem ent_111 : Ent Try.prog 111 := ent_of Try.func111 (by kernel_rfl) rfl
theorem ent_112 : Ent Try.prog 112 := ent_of Try.func112 (by kernel_rfl) rfl
theorem ent_113 : Ent Try.prog 113 := ent_of Try.func113 (by kernel_rfl) rfl
theorem ent_114 : Ent Try.prog 114 := ent_of Try.func114 (by kernel_rfl) rfl
theorem ent_115 : Ent Try.prog 115 := ent_of Try.func115 (by kernel_rfl) rfl
theorem ent_116 : Ent Try.prog 116 := ent_of Try.func116 (by kernel_rfl) rfl
theorem ent_117 : Ent Try.prog 117 := ent_of Try.func117 (by kernel_rfl) rfl
theorem ent_118 : Ent Try.prog 118 := ent_of Try.func118 (by kernel_rfl) rfl
theorem ent_119 : Ent Try.prog 119 := ent_of Try.func119 (by kernel_rfl) rfl
theorem ent_120 : Ent Try.prog 120 := ent_of Try.func120 (by kernel_rfl) rfl
theorem ent_121 : Ent Try.prog 121 := ent_of Try.func121 (by kernel_rfl) rfl
theorem ent_122 : Ent Try.prog 122 := ent_of Try.func122 (by kernel_rfl) rfl
theorem ent_123 : Ent Try.prog 123 := ent_of Try.func123 (by kernel_rfl) rfl
theorem ent_124 : Ent Try.prog 124 := ent_of Try.func124 (by kernel_rfl) rfl
theorem ent_125 : Ent Try.prog 125 := ent_of Try.func125 (by kernel_rfl) rfl
theorem ent_126 : Ent Try.prog 126 := ent_of Try.func126 (by kernel_rfl) rfl
theorem ent_127 : Ent Try.prog 127 := ent_of Try.func127 (by kernel_rfl) rfl
theorem ent_128 : Ent Try.prog 128 := ent_of Try.func128 (by kernel_rfl) rfl
theorem ent_129 : Ent Try.prog 129 := ent_of Try.func129 (by kernel_rfl) rfl
theorem ent_130 : Ent Try.prog 130 := ent_of Try.func130 (by kernel_rfl) rfl
theorem ent_131 : Ent Try.prog 131 := ent_of Try.func131 (by kernel_rfl) rfl
theorem ent_132 : Ent Try.prog 132 := ent_of Try.func132 (by kernel_rfl) rfl
theorem ent_133 : Ent Try.prog 133 := ent_of Try.func133 (by kernel_rfl) rfl
theorem ent_134 : Ent Try.prog 134 := ent_of Try.func134 (by kernel_rfl) rfl
theorem ent_135 : Ent Try.prog 135 := ent_of Try.func135 (by kernel_rfl) rfl
theorem ent_136 : Ent Try.prog 136 := ent_of Try.func136 (by kernel_rfl) rfl
theorem ent_137 : Ent Try.prog 137 := ent_of Try.func137 (by kernel_rfl) rfl
theorem ent_138 : Ent Try.prog 138 := ent_of Try.func138 (by kernel_rfl) rfl
theorem ent_139 : Ent Try.prog 139 := ent_of Try.func139 (by kernel_rfl) rfl
theorem ent_140 : Ent Try.prog 140 := ent_of Try.func140 (by kernel_rfl) rfl
theorem ent_141 : Ent Try.prog 141 := ent_of Try.func141 (by kernel_rfl) rfl
theorem ent_142 : Ent Try.prog 142 := ent_of Try.func142 (by kernel_rfl) rfl
theorem ent_143 : Ent Try.prog 143 := ent_of Try.func143 (by kernel_rfl) rfl
theorem ent_144 : Ent Try.prog 144 := ent_of Try.func144 (by kernel_rfl) rfl
theorem ent_145 : Ent Try.prog 145 := ent_of Try.func145 (by kernel_rfl) rfl
theorem ent_146 : Ent Try.prog 146 := ent_of Try.func146 (by kernel_rfl) rfl
theorem ent_147 : Ent Try.prog 147 := ent_of Try.func147 (by kernel_rfl) rfl
theorem ent_148 : Ent Try.prog 148 := ent_of Try.func148 (by kernel_rfl) rfl
theorem ent_149 : Ent Try.prog 149 := ent_of Try.func149 (by kernel_rfl) rfl
theorem ent_150 : Ent Try.prog 150 := ent_of Try.func150 (by kernel_rfl) rfl
theorem ent_151 : Ent Try.prog 151 := ent_of Try.func151 (by kernel_rfl) rfl
theorem ent_152 : Ent Try.prog 152 := ent_of Try.func152 (by kernel_rfl) rfl
theorem ent_153 : Ent Try.prog 153 := ent_of Try.func153 (by kernel_rfl) rfl
theorem ent_154 : Ent Try.prog 154 := ent_of Try.func154 (by kernel_rfl) rfl
theorem ent_155 : Ent Try.prog 155 := ent_of Try.func155 (by kernel_rfl) rfl
theorem ent_156 : Ent Try.prog 156 := ent_of Try.func156 (by kernel_rfl) rfl
theorem ent_157 : Ent Try.prog 157 := ent_of Try.func157 (by kernel_rfl) rfl
theorem ent_158 : Ent Try.prog 158 := ent_of Try.func158 (by kernel_rfl) rfl
theorem ent_159 : Ent Try.prog 159 := ent_of Try.func159 (by kernel_rfl) rfl
theorem ent_160 : Ent Try.prog 160 := ent_of Try.func160 (by kernel_rfl) rfl
theorem mixd : Try.prog.follows .mixedOrders = true := by kernel_rfl
attribute [simp] argT aOps_nil aOps_cons aStep_yes aStep_no aDo_call aDo_op aCont_some aGo_fn gdA gdB gdC nth callOf fOp keepS ev get_hit get_miss get_nil ofV put fBinX fBin eqv eqvs fPick fLoad fStore fFieldA fIdxA fIdx fSliceX fSlice num fLenX fCall fCap fNew cellsA fExt fUn fNot fConvX fConv fNil fBuild fillA fBuildS fElems fMake fApp fAppZ fMin fMax oneA Value.oneCell' upd_eq upd_ne upd_upd del_eq del_ne w64 resL resV resO ovr_none ovr_one ovr_upd u8s dOps_nil dOps_cons dStep_yes dStep_no dDo_call dDo_op dCont_some dGo_fn opR opW rdN wrN nmAs nmA List.getElem?_cons_zero List.getElem?_cons_succ
attribute [simp] agO_2 szO_2 zrX_2 zrO_2 kdT_2 knO_2 inO_2 agO_3 szO_3 zrX_3 zrO_3 kdT_3 knO_3 inO_3 agO_4 szO_4 zrX_4 zrO_4 kdT_4 knO_4 agO_5 szO_5 zrX_5 zrO_5 kdT_5 knO_5 inO_5 agO_6 szO_6 zrX_6 zrO_6 kdT_6 knO_6 inO_6 agO_7 szO_7 zrX_7 zrO_7 plO_7 fdO_7_0 fdO_7_1 fdO_7_2 fdO_7_3 knO_7 agO_8 szO_8 zrX_8 zrO_8 plO_8 fdO_8_0 fdO_8_1 fdO_8_2 fdO_8_3 knO_8 agO_9 szO_9 zrX_9 zrO_9 slO_9 stO_9 kdT_9 knO_9 agO_10 szO_10 zrX_10 zrO_10 slO_10 stO_10 kdT_10 knO_10 agO_11 szO_11 zrX_11 zrO_11 slO_11 stO_11 kdT_11 knO_11 agO_12 szO_12 zrX_12 zrO_12 kdT_12 knO_12 inO_12 agO_13 szO_13 zrX_13 zrO_13 plO_13 fdO_13_0 fdO_13_1 knO_13 agO_14 szO_14 zrX_14 zrO_14 plO_14 fdO_14_0 fdO_14_1 knO_14 agO_15 szO_15 zrX_15 zrO_15 knO_15 agO_16 szO_16 zrX_16 zrO_16 knO_16 agO_17 szO_17 zrX_17 zrO_17 knO_17 agO_18 szO_18 zrX_18 zrO_18 plO_18 fdO_18_0 knO_18 agO_19 szO_19 zrX_19 zrO_19 plO_19 fdO_19_0 knO_19 agO_21 szO_21 zrX_21 zrO_21 kdT_21 knO_21 inO_21 agO_22 szO_22 zrX_22 zrO_22 elX_22 elO_22 slO_22 u8O_22 knO_22 agO_23 szO_23 zrX_23 zrO_23 elX_23 elO_23 slO_23 u8O_23 knO_23 agO_24 szO_24 zrX_24 zrO_24 plO_24 fdO_24_0 fdO_24_1 knO_24 agO_25 szO_25 zrX_25 zrO_25 plO_25 fdO_25_0 fdO_25_1 knO_25 agO_26 szO_26 zrX_26 zrO_26 plO_26 fdO_26_0 fdO_26_1 knO_26 agO_27 szO_27 zrX_27 zrO_27 plO_27 fdO_27_0 fdO_27_1 kdO_27 knO_27 agO_35 szO_35 zrX_35 zrO_35 elX_35 elO_35 slO_35 u8O_35 knO_35 agO_36 szO_36 zrX_36 zrO_36 plO_36 fdO_36_0 fdO_36_1 knO_36 agO_37 szO_37 zrX_37 zrO_37 plO_37 fdO_37_0 fdO_37_1 knO_37 agO_38 szO_38 zrX_38 zrO_38 plO_38 fdO_38_0 fdO_38_1 kdO_38 knO_38 agO_53 szO_53 zrX_53 zrO_53 elX_53 elO_53 slO_53 u8O_53 knO_53 agO_56 szO_56 zrX_56 zrO_56 elX_56 elO_56 slO_56 u8O_56 knO_56 agO_64 szO_64 zrX_64 zrO_64 elX_64 elO_64 slO_64 u8O_64 knO_64 agO_72 szO_72 zrX_72 zrO_72 plO_72 fdO_72_0 knO_72 agO_73 szO_73 zrX_73 zrO_73 plO_73 fdO_73_0 knO_73 agO_76 szO_76 zrX_76 zrO_76 plO_76 fdO_76_0 knO_76 agO_77 szO_77 zrX_77 zrO_77 plO_77 fdO_77_0 knO_77 agO_87 szO_87 zrX_87 zrO_87 knO_87 agO_98 szO_98 zrX_98 zrO_98 kdT_98 knO_98 inO_98 agO_112 szO_112 zrX_112 zrO_112 elX_112 elO_112 slO_112 u8O_112 knO_112 agO_127 szO_127 zrX_127 zrO_127 plO_127 fdO_127_0 fdO_127_1 knO_127 agO_128 szO_128 zrX_128 zrO_128 plO_128 fdO_128_0 fdO_128_1 knO_128 agO_131 szO_131 zrX_131 zrO_131 plO_131 fdO_131_0 fdO_131_1 knO_131 agO_132 szO_132 zrX_132 zrO_132 plO_132 fdO_132_0 fdO_132_1 kdO_132 knO_132 agO_133 szO_133 zrX_133 zrO_133 plO_133 fdO_133_0 fdO_133_1 kdO_133 knO_133 agO_136 szO_136 zrX_136 zrO_136 kdT_136 knO_136 inO_136 agO_138 szO_138 zrX_138 zrO_138 kdT_138 knO_138 inO_138 agO_156 szO_156 zrX_156 zrO_156 plO_156 fdO_156_0 fdO_156_1 fdO_156_2 fdO_156_3 knO_156 agO_157 szO_157 zrX_157 zrO_157 plO_157 fdO_157_0 fdO_157_1 fdO_157_2 fdO_157_3 knO_157 agO_159 szO_159 zrX_159 zrO_159 plO_159 knO_159 agO_160 szO_160 zrX_160 zrO_160 plO_160 knO_160 agO_161 szO_161 zrX_161 zrO_161 kdT_161 knO_161 inO_161 agO_162 szO_162 zrX_162 zrO_162 kdT_162 knO_162 inO_162 agO_164 szO_164 zrX_164 zrO_164 knO_164 agO_165 szO_165 zrX_165 zrO_165 kdT_165 knO_165 inO_165 agO_166 szO_166 zrX_166 zrO_166 kdT_166 knO_166 inO_166 agO_167 szO_167 zrX_167 zrO_167 plO_167 fdO_167_0 fdO_167_1 fdO_167_2 fdO_167_3 fdO_167_4 fdO_167_5 fdO_167_6 fdO_167_7 fdO_167_8 fdO_167_9 fdO_167_10 knO_167 agO_168 szO_168 zrX_168 zrO_168 plO_168 fdO_168_0 fdO_168_1 fdO_168_2 fdO_168_3 fdO_168_4 fdO_168_5 fdO_168_6 fdO_168_7 fdO_168_8 fdO_168_9 fdO_168_10 knO_168
end Go.Proofs.Ytbdehnjbglpfjaa
