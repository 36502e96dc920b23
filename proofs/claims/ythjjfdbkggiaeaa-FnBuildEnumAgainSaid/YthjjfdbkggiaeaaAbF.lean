/- The closed facts on the program's tables of types. No condition. MADE BY A PROGRAM (facts.py). -/
import Derived.Test.YthjjfdbkggiaeaaLB
import Derived.Test.YthjjfdbkggiaeaaRows
set_option linter.unusedSimpArgs false
set_option linter.unusedVariables false
namespace Go.Proofs.Ythjjfdbkggiaeaa
open Go Go.RowKit
theorem agO_2 : aggO Try.prog 2 = some false := by kernel_rfl
theorem szO_2 : szO Try.prog 2 = some 1 := by kernel_rfl
theorem zrX_2 : zrX Try.prog 2 = some [.v (.int .i64 0)] := by kernel_rfl
theorem zrO_2 : zrO Try.prog 2 = some [.v (.int .i64 0)] := by kernel_rfl
theorem kdT_2 : kdT Try.prog 2 = some 1 := by kernel_rfl
theorem knO_2 : knO Try.prog 2 = true := by kernel_rfl
theorem inO_2 : inO Try.prog 2 = some .i64 := by kernel_rfl
theorem agO_3 : aggO Try.prog 3 = some false := by kernel_rfl
theorem szO_3 : szO Try.prog 3 = some 1 := by kernel_rfl
theorem zrX_3 : zrX Try.prog 3 = some [.v (.int .i64 0)] := by kernel_rfl
theorem zrO_3 : zrO Try.prog 3 = some [.v (.int .i64 0)] := by kernel_rfl
theorem kdT_3 : kdT Try.prog 3 = some 1 := by kernel_rfl
theorem knO_3 : knO Try.prog 3 = true := by kernel_rfl
theorem inO_3 : inO Try.prog 3 = some .i64 := by kernel_rfl
theorem agO_4 : aggO Try.prog 4 = some false := by kernel_rfl
theorem szO_4 : szO Try.prog 4 = some 1 := by kernel_rfl
theorem zrX_4 : zrX Try.prog 4 = some [.v (.bool false)] := by kernel_rfl
theorem zrO_4 : zrO Try.prog 4 = some [.v (.bool false)] := by kernel_rfl
theorem kdT_4 : kdT Try.prog 4 = some 0 := by kernel_rfl
theorem knO_4 : knO Try.prog 4 = true := by kernel_rfl
theorem agO_5 : aggO Try.prog 5 = some false := by kernel_rfl
theorem szO_5 : szO Try.prog 5 = some 1 := by kernel_rfl
theorem zrX_5 : zrX Try.prog 5 = some [.v (.int .u8 0)] := by kernel_rfl
theorem zrO_5 : zrO Try.prog 5 = some [.v (.int .u8 0)] := by kernel_rfl
theorem kdT_5 : kdT Try.prog 5 = some 1 := by kernel_rfl
theorem knO_5 : knO Try.prog 5 = true := by kernel_rfl
theorem inO_5 : inO Try.prog 5 = some .u8 := by kernel_rfl
theorem agO_6 : aggO Try.prog 6 = some false := by kernel_rfl
theorem szO_6 : szO Try.prog 6 = some 1 := by kernel_rfl
theorem zrX_6 : zrX Try.prog 6 = some [.v (.int .u8 0)] := by kernel_rfl
theorem zrO_6 : zrO Try.prog 6 = some [.v (.int .u8 0)] := by kernel_rfl
theorem kdT_6 : kdT Try.prog 6 = some 1 := by kernel_rfl
theorem knO_6 : knO Try.prog 6 = true := by kernel_rfl
theorem inO_6 : inO Try.prog 6 = some .u8 := by kernel_rfl
theorem agO_7 : aggO Try.prog 7 = some true := by kernel_rfl
theorem szO_7 : szO Try.prog 7 = some 4 := by kernel_rfl
theorem zrX_7 : zrX Try.prog 7 = some [.v (.int .i64 0), .v (.int .i64 0), .v (.bool false), .v (.int .u8 0)] := by kernel_rfl
theorem zrO_7 : zrO Try.prog 7 = some [.v (.int .i64 0), .v (.int .i64 0), .v (.bool false), .v (.int .u8 0)] := by kernel_rfl
theorem plO_7 : plO Try.prog 7 = some [(0, 1), (1, 1), (2, 1), (3, 1)] := by kernel_rfl
theorem fdO_7_0 : fdO Try.prog 7 0 = some (0, 1) := by kernel_rfl
theorem fdO_7_1 : fdO Try.prog 7 1 = some (1, 1) := by kernel_rfl
theorem fdO_7_2 : fdO Try.prog 7 2 = some (2, 1) := by kernel_rfl
theorem fdO_7_3 : fdO Try.prog 7 3 = some (3, 1) := by kernel_rfl
theorem knO_7 : knO Try.prog 7 = true := by kernel_rfl
theorem agO_8 : aggO Try.prog 8 = some true := by kernel_rfl
theorem szO_8 : szO Try.prog 8 = some 4 := by kernel_rfl
theorem zrX_8 : zrX Try.prog 8 = some [.v (.int .i64 0), .v (.int .i64 0), .v (.bool false), .v (.int .u8 0)] := by kernel_rfl
theorem zrO_8 : zrO Try.prog 8 = some [.v (.int .i64 0), .v (.int .i64 0), .v (.bool false), .v (.int .u8 0)] := by kernel_rfl
theorem plO_8 : plO Try.prog 8 = some [(0, 1), (1, 1), (2, 1), (3, 1)] := by kernel_rfl
theorem fdO_8_0 : fdO Try.prog 8 0 = some (0, 1) := by kernel_rfl
theorem fdO_8_1 : fdO Try.prog 8 1 = some (1, 1) := by kernel_rfl
theorem fdO_8_2 : fdO Try.prog 8 2 = some (2, 1) := by kernel_rfl
theorem fdO_8_3 : fdO Try.prog 8 3 = some (3, 1) := by kernel_rfl
theorem knO_8 : knO Try.prog 8 = true := by kernel_rfl
theorem agO_9 : aggO Try.prog 9 = some false := by kernel_rfl
theorem szO_9 : szO Try.prog 9 = some 1 := by kernel_rfl
theorem zrX_9 : zrX Try.prog 9 = some [.v (.string ByteArray.empty)] := by kernel_rfl
theorem zrO_9 : zrO Try.prog 9 = some [.v (.string ByteArray.empty)] := by kernel_rfl
theorem slO_9 : slO Try.prog 9 = some none := by kernel_rfl
theorem stO_9 : stO Try.prog 9 = true := by kernel_rfl
theorem kdT_9 : kdT Try.prog 9 = some 2 := by kernel_rfl
theorem knO_9 : knO Try.prog 9 = true := by kernel_rfl
theorem agO_10 : aggO Try.prog 10 = some false := by kernel_rfl
theorem szO_10 : szO Try.prog 10 = some 1 := by kernel_rfl
theorem zrX_10 : zrX Try.prog 10 = some [.v (.string ByteArray.empty)] := by kernel_rfl
theorem zrO_10 : zrO Try.prog 10 = some [.v (.string ByteArray.empty)] := by kernel_rfl
theorem slO_10 : slO Try.prog 10 = some none := by kernel_rfl
theorem stO_10 : stO Try.prog 10 = true := by kernel_rfl
theorem kdT_10 : kdT Try.prog 10 = some 2 := by kernel_rfl
theorem knO_10 : knO Try.prog 10 = true := by kernel_rfl
theorem agO_11 : aggO Try.prog 11 = some false := by kernel_rfl
theorem szO_11 : szO Try.prog 11 = some 1 := by kernel_rfl
theorem zrX_11 : zrX Try.prog 11 = some [.v (.string ByteArray.empty)] := by kernel_rfl
theorem zrO_11 : zrO Try.prog 11 = some [.v (.string ByteArray.empty)] := by kernel_rfl
theorem slO_11 : slO Try.prog 11 = some none := by kernel_rfl
theorem stO_11 : stO Try.prog 11 = true := by kernel_rfl
theorem kdT_11 : kdT Try.prog 11 = some 2 := by kernel_rfl
theorem knO_11 : knO Try.prog 11 = true := by kernel_rfl
theorem agO_12 : aggO Try.prog 12 = some false := by kernel_rfl
theorem szO_12 : szO Try.prog 12 = some 1 := by kernel_rfl
theorem zrX_12 : zrX Try.prog 12 = some [.v (.int .u64 0)] := by kernel_rfl
theorem zrO_12 : zrO Try.prog 12 = some [.v (.int .u64 0)] := by kernel_rfl
theorem kdT_12 : kdT Try.prog 12 = some 1 := by kernel_rfl
theorem knO_12 : knO Try.prog 12 = true := by kernel_rfl
theorem inO_12 : inO Try.prog 12 = some .u64 := by kernel_rfl
theorem agO_13 : aggO Try.prog 13 = some true := by kernel_rfl
theorem szO_13 : szO Try.prog 13 = some 2 := by kernel_rfl
theorem zrX_13 : zrX Try.prog 13 = some [.v (.string ByteArray.empty), .v (.int .u64 0)] := by kernel_rfl
theorem zrO_13 : zrO Try.prog 13 = some [.v (.string ByteArray.empty), .v (.int .u64 0)] := by kernel_rfl
theorem plO_13 : plO Try.prog 13 = some [(0, 1), (1, 1)] := by kernel_rfl
theorem fdO_13_0 : fdO Try.prog 13 0 = some (0, 1) := by kernel_rfl
theorem fdO_13_1 : fdO Try.prog 13 1 = some (1, 1) := by kernel_rfl
theorem knO_13 : knO Try.prog 13 = true := by kernel_rfl
theorem agO_14 : aggO Try.prog 14 = some true := by kernel_rfl
theorem szO_14 : szO Try.prog 14 = some 2 := by kernel_rfl
theorem zrX_14 : zrX Try.prog 14 = some [.v (.string ByteArray.empty), .v (.int .u64 0)] := by kernel_rfl
theorem zrO_14 : zrO Try.prog 14 = some [.v (.string ByteArray.empty), .v (.int .u64 0)] := by kernel_rfl
theorem plO_14 : plO Try.prog 14 = some [(0, 1), (1, 1)] := by kernel_rfl
theorem fdO_14_0 : fdO Try.prog 14 0 = some (0, 1) := by kernel_rfl
theorem fdO_14_1 : fdO Try.prog 14 1 = some (1, 1) := by kernel_rfl
theorem knO_14 : knO Try.prog 14 = true := by kernel_rfl
theorem agO_15 : aggO Try.prog 15 = some false := by kernel_rfl
theorem szO_15 : szO Try.prog 15 = some 1 := by kernel_rfl
theorem zrX_15 : zrX Try.prog 15 = some [.v (.pointer none)] := by kernel_rfl
theorem zrO_15 : zrO Try.prog 15 = some [.v (.pointer none)] := by kernel_rfl
theorem knO_15 : knO Try.prog 15 = true := by kernel_rfl
theorem agO_16 : aggO Try.prog 16 = some false := by kernel_rfl
theorem szO_16 : szO Try.prog 16 = some 1 := by kernel_rfl
theorem zrX_16 : zrX Try.prog 16 = some [.v (.pointer none)] := by kernel_rfl
theorem zrO_16 : zrO Try.prog 16 = some [.v (.pointer none)] := by kernel_rfl
theorem knO_16 : knO Try.prog 16 = true := by kernel_rfl
theorem agO_17 : aggO Try.prog 17 = some false := by kernel_rfl
theorem szO_17 : szO Try.prog 17 = some 1 := by kernel_rfl
theorem zrX_17 : zrX Try.prog 17 = some [.v (.pointer none)] := by kernel_rfl
theorem zrO_17 : zrO Try.prog 17 = some [.v (.pointer none)] := by kernel_rfl
theorem knO_17 : knO Try.prog 17 = true := by kernel_rfl
theorem agO_18 : aggO Try.prog 18 = some true := by kernel_rfl
theorem szO_18 : szO Try.prog 18 = some 1 := by kernel_rfl
theorem zrX_18 : zrX Try.prog 18 = some [.v (.pointer none)] := by kernel_rfl
theorem zrO_18 : zrO Try.prog 18 = some [.v (.pointer none)] := by kernel_rfl
theorem plO_18 : plO Try.prog 18 = some [(0, 1)] := by kernel_rfl
theorem fdO_18_0 : fdO Try.prog 18 0 = some (0, 1) := by kernel_rfl
theorem knO_18 : knO Try.prog 18 = true := by kernel_rfl
theorem agO_19 : aggO Try.prog 19 = some true := by kernel_rfl
theorem szO_19 : szO Try.prog 19 = some 1 := by kernel_rfl
theorem zrX_19 : zrX Try.prog 19 = some [.v (.pointer none)] := by kernel_rfl
theorem zrO_19 : zrO Try.prog 19 = some [.v (.pointer none)] := by kernel_rfl
theorem plO_19 : plO Try.prog 19 = some [(0, 1)] := by kernel_rfl
theorem fdO_19_0 : fdO Try.prog 19 0 = some (0, 1) := by kernel_rfl
theorem knO_19 : knO Try.prog 19 = true := by kernel_rfl
theorem agO_21 : aggO Try.prog 21 = some false := by kernel_rfl
theorem szO_21 : szO Try.prog 21 = some 1 := by kernel_rfl
theorem zrX_21 : zrX Try.prog 21 = some [.v (.int .i32 0)] := by kernel_rfl
theorem zrO_21 : zrO Try.prog 21 = some [.v (.int .i32 0)] := by kernel_rfl
theorem kdT_21 : kdT Try.prog 21 = some 1 := by kernel_rfl
theorem knO_21 : knO Try.prog 21 = true := by kernel_rfl
theorem inO_21 : inO Try.prog 21 = some .i32 := by kernel_rfl
theorem agO_22 : aggO Try.prog 22 = some false := by kernel_rfl
theorem szO_22 : szO Try.prog 22 = some 1 := by kernel_rfl
theorem zrX_22 : zrX Try.prog 22 = some [.sl 0 0 0 (some 0) 0] := by kernel_rfl
theorem zrO_22 : zrO Try.prog 22 = some [.sl 0 0 0 (some 0) 0] := by kernel_rfl
theorem elX_22 : elX Try.prog 22 = some (5, 1, 1) := by kernel_rfl
theorem elO_22 : elO Try.prog 22 = some 5 := by kernel_rfl
theorem slO_22 : slO Try.prog 22 = some (some 1) := by kernel_rfl
theorem u8O_22 : u8O Try.prog 22 = true := by kernel_rfl
theorem knO_22 : knO Try.prog 22 = true := by kernel_rfl
theorem agO_23 : aggO Try.prog 23 = some false := by kernel_rfl
theorem szO_23 : szO Try.prog 23 = some 1 := by kernel_rfl
theorem zrX_23 : zrX Try.prog 23 = some [.sl 0 0 0 (some 0) 0] := by kernel_rfl
theorem zrO_23 : zrO Try.prog 23 = some [.sl 0 0 0 (some 0) 0] := by kernel_rfl
theorem elX_23 : elX Try.prog 23 = some (33, 2, 24) := by kernel_rfl
theorem elO_23 : elO Try.prog 23 = some 33 := by kernel_rfl
theorem slO_23 : slO Try.prog 23 = some (some 2) := by kernel_rfl
theorem u8O_23 : u8O Try.prog 23 = false := by kernel_rfl
theorem knO_23 : knO Try.prog 23 = true := by kernel_rfl
theorem agO_24 : aggO Try.prog 24 = some true := by kernel_rfl
theorem szO_24 : szO Try.prog 24 = some 1 := by kernel_rfl
theorem zrX_24 : zrX Try.prog 24 = some [.sl 0 0 0 (some 0) 0] := by kernel_rfl
theorem zrO_24 : zrO Try.prog 24 = some [.sl 0 0 0 (some 0) 0] := by kernel_rfl
theorem plO_24 : plO Try.prog 24 = some [(0, 1)] := by kernel_rfl
theorem fdO_24_0 : fdO Try.prog 24 0 = some (0, 1) := by kernel_rfl
theorem knO_24 : knO Try.prog 24 = true := by kernel_rfl
theorem agO_25 : aggO Try.prog 25 = some true := by kernel_rfl
theorem szO_25 : szO Try.prog 25 = some 1 := by kernel_rfl
theorem zrX_25 : zrX Try.prog 25 = some [.sl 0 0 0 (some 0) 0] := by kernel_rfl
theorem zrO_25 : zrO Try.prog 25 = some [.sl 0 0 0 (some 0) 0] := by kernel_rfl
theorem plO_25 : plO Try.prog 25 = some [(0, 1)] := by kernel_rfl
theorem fdO_25_0 : fdO Try.prog 25 0 = some (0, 1) := by kernel_rfl
theorem knO_25 : knO Try.prog 25 = true := by kernel_rfl
theorem agO_32 : aggO Try.prog 32 = some true := by kernel_rfl
theorem szO_32 : szO Try.prog 32 = some 2 := by kernel_rfl
theorem zrX_32 : zrX Try.prog 32 = some [.v (.string ByteArray.empty), .v (.int .i64 0)] := by kernel_rfl
theorem zrO_32 : zrO Try.prog 32 = some [.v (.string ByteArray.empty), .v (.int .i64 0)] := by kernel_rfl
theorem plO_32 : plO Try.prog 32 = some [(0, 1), (1, 1)] := by kernel_rfl
theorem fdO_32_0 : fdO Try.prog 32 0 = some (0, 1) := by kernel_rfl
theorem fdO_32_1 : fdO Try.prog 32 1 = some (1, 1) := by kernel_rfl
theorem knO_32 : knO Try.prog 32 = true := by kernel_rfl
theorem agO_33 : aggO Try.prog 33 = some true := by kernel_rfl
theorem szO_33 : szO Try.prog 33 = some 2 := by kernel_rfl
theorem zrX_33 : zrX Try.prog 33 = some [.v (.string ByteArray.empty), .v (.int .i64 0)] := by kernel_rfl
theorem zrO_33 : zrO Try.prog 33 = some [.v (.string ByteArray.empty), .v (.int .i64 0)] := by kernel_rfl
theorem plO_33 : plO Try.prog 33 = some [(0, 1), (1, 1)] := by kernel_rfl
theorem fdO_33_0 : fdO Try.prog 33 0 = some (0, 1) := by kernel_rfl
theorem fdO_33_1 : fdO Try.prog 33 1 = some (1, 1) := by kernel_rfl
theorem kdO_33 : kdO Try.prog 33 = some [2, 1] := by kernel_rfl
theorem knO_33 : knO Try.prog 33 = true := by kernel_rfl
theorem agO_37 : aggO Try.prog 37 = some false := by kernel_rfl
theorem szO_37 : szO Try.prog 37 = some 1 := by kernel_rfl
theorem zrX_37 : zrX Try.prog 37 = some [.sl 0 0 0 (some 0) 0] := by kernel_rfl
theorem zrO_37 : zrO Try.prog 37 = some [.sl 0 0 0 (some 0) 0] := by kernel_rfl
theorem elX_37 : elX Try.prog 37 = some (112, 2, 24) := by kernel_rfl
theorem elO_37 : elO Try.prog 37 = some 112 := by kernel_rfl
theorem slO_37 : slO Try.prog 37 = some (some 2) := by kernel_rfl
theorem u8O_37 : u8O Try.prog 37 = false := by kernel_rfl
theorem knO_37 : knO Try.prog 37 = true := by kernel_rfl
theorem agO_38 : aggO Try.prog 38 = some true := by kernel_rfl
theorem szO_38 : szO Try.prog 38 = some 1 := by kernel_rfl
theorem zrX_38 : zrX Try.prog 38 = some [.sl 0 0 0 (some 0) 0] := by kernel_rfl
theorem zrO_38 : zrO Try.prog 38 = some [.sl 0 0 0 (some 0) 0] := by kernel_rfl
theorem plO_38 : plO Try.prog 38 = some [(0, 1)] := by kernel_rfl
theorem fdO_38_0 : fdO Try.prog 38 0 = some (0, 1) := by kernel_rfl
theorem knO_38 : knO Try.prog 38 = true := by kernel_rfl
theorem agO_39 : aggO Try.prog 39 = some true := by kernel_rfl
theorem szO_39 : szO Try.prog 39 = some 1 := by kernel_rfl
theorem zrX_39 : zrX Try.prog 39 = some [.sl 0 0 0 (some 0) 0] := by kernel_rfl
theorem zrO_39 : zrO Try.prog 39 = some [.sl 0 0 0 (some 0) 0] := by kernel_rfl
theorem plO_39 : plO Try.prog 39 = some [(0, 1)] := by kernel_rfl
theorem fdO_39_0 : fdO Try.prog 39 0 = some (0, 1) := by kernel_rfl
theorem knO_39 : knO Try.prog 39 = true := by kernel_rfl
theorem agO_53 : aggO Try.prog 53 = some false := by kernel_rfl
theorem szO_53 : szO Try.prog 53 = some 1 := by kernel_rfl
theorem zrX_53 : zrX Try.prog 53 = some [.sl 0 0 0 (some 0) 0] := by kernel_rfl
theorem zrO_53 : zrO Try.prog 53 = some [.sl 0 0 0 (some 0) 0] := by kernel_rfl
theorem elX_53 : elX Try.prog 53 = some (9, 1, 16) := by kernel_rfl
theorem elO_53 : elO Try.prog 53 = some 9 := by kernel_rfl
theorem slO_53 : slO Try.prog 53 = some (some 1) := by kernel_rfl
theorem u8O_53 : u8O Try.prog 53 = false := by kernel_rfl
theorem knO_53 : knO Try.prog 53 = true := by kernel_rfl
theorem agO_58 : aggO Try.prog 58 = some false := by kernel_rfl
theorem szO_58 : szO Try.prog 58 = some 1 := by kernel_rfl
theorem zrX_58 : zrX Try.prog 58 = some [.sl 0 0 0 (some 0) 0] := by kernel_rfl
theorem zrO_58 : zrO Try.prog 58 = some [.sl 0 0 0 (some 0) 0] := by kernel_rfl
theorem elX_58 : elX Try.prog 58 = some (3, 1, 8) := by kernel_rfl
theorem elO_58 : elO Try.prog 58 = some 3 := by kernel_rfl
theorem slO_58 : slO Try.prog 58 = some (some 1) := by kernel_rfl
theorem u8O_58 : u8O Try.prog 58 = false := by kernel_rfl
theorem knO_58 : knO Try.prog 58 = true := by kernel_rfl
theorem agO_62 : aggO Try.prog 62 = some false := by kernel_rfl
theorem szO_62 : szO Try.prog 62 = some 1 := by kernel_rfl
theorem zrX_62 : zrX Try.prog 62 = some [.sl 0 0 0 (some 0) 0] := by kernel_rfl
theorem zrO_62 : zrO Try.prog 62 = some [.sl 0 0 0 (some 0) 0] := by kernel_rfl
theorem elX_62 : elX Try.prog 62 = some (66, 3, 32) := by kernel_rfl
theorem elO_62 : elO Try.prog 62 = some 66 := by kernel_rfl
theorem slO_62 : slO Try.prog 62 = some (some 3) := by kernel_rfl
theorem u8O_62 : u8O Try.prog 62 = false := by kernel_rfl
theorem knO_62 : knO Try.prog 62 = true := by kernel_rfl
theorem agO_65 : aggO Try.prog 65 = some true := by kernel_rfl
theorem szO_65 : szO Try.prog 65 = some 3 := by kernel_rfl
theorem zrX_65 : zrX Try.prog 65 = some [.v (.string ByteArray.empty), .v (.bool false), .v (.int .i64 0)] := by kernel_rfl
theorem zrO_65 : zrO Try.prog 65 = some [.v (.string ByteArray.empty), .v (.bool false), .v (.int .i64 0)] := by kernel_rfl
theorem plO_65 : plO Try.prog 65 = some [(0, 1), (1, 1), (2, 1)] := by kernel_rfl
theorem fdO_65_0 : fdO Try.prog 65 0 = some (0, 1) := by kernel_rfl
theorem fdO_65_1 : fdO Try.prog 65 1 = some (1, 1) := by kernel_rfl
theorem fdO_65_2 : fdO Try.prog 65 2 = some (2, 1) := by kernel_rfl
theorem knO_65 : knO Try.prog 65 = true := by kernel_rfl
theorem agO_66 : aggO Try.prog 66 = some true := by kernel_rfl
theorem szO_66 : szO Try.prog 66 = some 3 := by kernel_rfl
theorem zrX_66 : zrX Try.prog 66 = some [.v (.string ByteArray.empty), .v (.bool false), .v (.int .i64 0)] := by kernel_rfl
theorem zrO_66 : zrO Try.prog 66 = some [.v (.string ByteArray.empty), .v (.bool false), .v (.int .i64 0)] := by kernel_rfl
theorem plO_66 : plO Try.prog 66 = some [(0, 1), (1, 1), (2, 1)] := by kernel_rfl
theorem fdO_66_0 : fdO Try.prog 66 0 = some (0, 1) := by kernel_rfl
theorem fdO_66_1 : fdO Try.prog 66 1 = some (1, 1) := by kernel_rfl
theorem fdO_66_2 : fdO Try.prog 66 2 = some (2, 1) := by kernel_rfl
theorem kdO_66 : kdO Try.prog 66 = some [2, 0, 1] := by kernel_rfl
theorem knO_66 : knO Try.prog 66 = true := by kernel_rfl
theorem agO_77 : aggO Try.prog 77 = some false := by kernel_rfl
theorem szO_77 : szO Try.prog 77 = some 1 := by kernel_rfl
theorem zrX_77 : zrX Try.prog 77 = some [.v (.pointer none)] := by kernel_rfl
theorem zrO_77 : zrO Try.prog 77 = some [.v (.pointer none)] := by kernel_rfl
theorem knO_77 : knO Try.prog 77 = true := by kernel_rfl
theorem agO_106 : aggO Try.prog 106 = some true := by kernel_rfl
theorem szO_106 : szO Try.prog 106 = some 2 := by kernel_rfl
theorem zrX_106 : zrX Try.prog 106 = some [.sl 0 0 0 (some 0) 0, .v (.int .i64 0)] := by kernel_rfl
theorem zrO_106 : zrO Try.prog 106 = some [.sl 0 0 0 (some 0) 0, .v (.int .i64 0)] := by kernel_rfl
theorem plO_106 : plO Try.prog 106 = some [(0, 1), (1, 1)] := by kernel_rfl
theorem fdO_106_0 : fdO Try.prog 106 0 = some (0, 1) := by kernel_rfl
theorem fdO_106_1 : fdO Try.prog 106 1 = some (1, 1) := by kernel_rfl
theorem knO_106 : knO Try.prog 106 = true := by kernel_rfl
theorem agO_107 : aggO Try.prog 107 = some true := by kernel_rfl
theorem szO_107 : szO Try.prog 107 = some 2 := by kernel_rfl
theorem zrX_107 : zrX Try.prog 107 = some [.sl 0 0 0 (some 0) 0, .v (.int .i64 0)] := by kernel_rfl
theorem zrO_107 : zrO Try.prog 107 = some [.sl 0 0 0 (some 0) 0, .v (.int .i64 0)] := by kernel_rfl
theorem plO_107 : plO Try.prog 107 = some [(0, 1), (1, 1)] := by kernel_rfl
theorem fdO_107_0 : fdO Try.prog 107 0 = some (0, 1) := by kernel_rfl
theorem fdO_107_1 : fdO Try.prog 107 1 = some (1, 1) := by kernel_rfl
theorem knO_107 : knO Try.prog 107 = true := by kernel_rfl
theorem agO_112 : aggO Try.prog 112 = some true := by kernel_rfl
theorem szO_112 : szO Try.prog 112 = some 2 := by kernel_rfl
theorem zrX_112 : zrX Try.prog 112 = some [.v (.string ByteArray.empty), .v (.int .i64 0)] := by kernel_rfl
theorem zrO_112 : zrO Try.prog 112 = some [.v (.string ByteArray.empty), .v (.int .i64 0)] := by kernel_rfl
theorem plO_112 : plO Try.prog 112 = some [(0, 1), (1, 1)] := by kernel_rfl
theorem fdO_112_0 : fdO Try.prog 112 0 = some (0, 1) := by kernel_rfl
theorem fdO_112_1 : fdO Try.prog 112 1 = some (1, 1) := by kernel_rfl
theorem kdO_112 : kdO Try.prog 112 = some [2, 1] := by kernel_rfl
theorem knO_112 : knO Try.prog 112 = true := by kernel_rfl
theorem agO_116 : aggO Try.prog 116 = some false := by kernel_rfl
theorem szO_116 : szO Try.prog 116 = some 1 := by kernel_rfl
theorem zrX_116 : zrX Try.prog 116 = some [.sl 0 0 0 (some 0) 0] := by kernel_rfl
theorem zrO_116 : zrO Try.prog 116 = some [.sl 0 0 0 (some 0) 0] := by kernel_rfl
theorem elX_116 : elX Try.prog 116 = some (23, 1, 24) := by kernel_rfl
theorem elO_116 : elO Try.prog 116 = some 23 := by kernel_rfl
theorem slO_116 : slO Try.prog 116 = some (some 1) := by kernel_rfl
theorem u8O_116 : u8O Try.prog 116 = false := by kernel_rfl
theorem knO_116 : knO Try.prog 116 = true := by kernel_rfl
theorem agO_120 : aggO Try.prog 120 = some true := by kernel_rfl
theorem szO_120 : szO Try.prog 120 = some 4 := by kernel_rfl
theorem zrX_120 : zrX Try.prog 120 = some [.v (.pointer none), .v (.pointer none), .v (.pointer none), .v (.string ByteArray.empty)] := by kernel_rfl
theorem zrO_120 : zrO Try.prog 120 = some [.v (.pointer none), .v (.pointer none), .v (.pointer none), .v (.string ByteArray.empty)] := by kernel_rfl
theorem plO_120 : plO Try.prog 120 = some [(0, 1), (1, 1), (2, 1), (3, 1)] := by kernel_rfl
theorem fdO_120_0 : fdO Try.prog 120 0 = some (0, 1) := by kernel_rfl
theorem fdO_120_1 : fdO Try.prog 120 1 = some (1, 1) := by kernel_rfl
theorem fdO_120_2 : fdO Try.prog 120 2 = some (2, 1) := by kernel_rfl
theorem fdO_120_3 : fdO Try.prog 120 3 = some (3, 1) := by kernel_rfl
theorem knO_120 : knO Try.prog 120 = true := by kernel_rfl
theorem agO_121 : aggO Try.prog 121 = some true := by kernel_rfl
theorem szO_121 : szO Try.prog 121 = some 4 := by kernel_rfl
theorem zrX_121 : zrX Try.prog 121 = some [.v (.pointer none), .v (.pointer none), .v (.pointer none), .v (.string ByteArray.empty)] := by kernel_rfl
theorem zrO_121 : zrO Try.prog 121 = some [.v (.pointer none), .v (.pointer none), .v (.pointer none), .v (.string ByteArray.empty)] := by kernel_rfl
theorem plO_121 : plO Try.prog 121 = some [(0, 1), (1, 1), (2, 1), (3, 1)] := by kernel_rfl
theorem fdO_121_0 : fdO Try.prog 121 0 = some (0, 1) := by kernel_rfl
theorem fdO_121_1 : fdO Try.prog 121 1 = some (1, 1) := by kernel_rfl
theorem fdO_121_2 : fdO Try.prog 121 2 = some (2, 1) := by kernel_rfl
theorem fdO_121_3 : fdO Try.prog 121 3 = some (3, 1) := by kernel_rfl
theorem knO_121 : knO Try.prog 121 = true := by kernel_rfl
theorem agO_123 : aggO Try.prog 123 = some true := by kernel_rfl
theorem szO_123 : szO Try.prog 123 = some 0 := by kernel_rfl
theorem zrX_123 : zrX Try.prog 123 = some [] := by kernel_rfl
theorem zrO_123 : zrO Try.prog 123 = some [] := by kernel_rfl
theorem plO_123 : plO Try.prog 123 = some [(0, 0)] := by kernel_rfl
theorem knO_123 : knO Try.prog 123 = true := by kernel_rfl
theorem agO_124 : aggO Try.prog 124 = some true := by kernel_rfl
theorem szO_124 : szO Try.prog 124 = some 0 := by kernel_rfl
theorem zrX_124 : zrX Try.prog 124 = some [] := by kernel_rfl
theorem zrO_124 : zrO Try.prog 124 = some [] := by kernel_rfl
theorem plO_124 : plO Try.prog 124 = some [(0, 0)] := by kernel_rfl
theorem knO_124 : knO Try.prog 124 = true := by kernel_rfl
theorem agO_126 : aggO Try.prog 126 = some false := by kernel_rfl
theorem szO_126 : szO Try.prog 126 = some 1 := by kernel_rfl
theorem zrX_126 : zrX Try.prog 126 = some [.v (.int .u32 0)] := by kernel_rfl
theorem zrO_126 : zrO Try.prog 126 = some [.v (.int .u32 0)] := by kernel_rfl
theorem kdT_126 : kdT Try.prog 126 = some 1 := by kernel_rfl
theorem knO_126 : knO Try.prog 126 = true := by kernel_rfl
theorem inO_126 : inO Try.prog 126 = some .u32 := by kernel_rfl
theorem agO_127 : aggO Try.prog 127 = some false := by kernel_rfl
theorem szO_127 : szO Try.prog 127 = some 1 := by kernel_rfl
theorem zrX_127 : zrX Try.prog 127 = some [.v (.int .u8 0)] := by kernel_rfl
theorem zrO_127 : zrO Try.prog 127 = some [.v (.int .u8 0)] := by kernel_rfl
theorem kdT_127 : kdT Try.prog 127 = some 1 := by kernel_rfl
theorem knO_127 : knO Try.prog 127 = true := by kernel_rfl
theorem inO_127 : inO Try.prog 127 = some .u8 := by kernel_rfl
theorem agO_128 : aggO Try.prog 128 = some false := by kernel_rfl
theorem szO_128 : szO Try.prog 128 = some 1 := by kernel_rfl
theorem zrX_128 : zrX Try.prog 128 = some [.v (.int .u8 0)] := by kernel_rfl
theorem zrO_128 : zrO Try.prog 128 = some [.v (.int .u8 0)] := by kernel_rfl
theorem kdT_128 : kdT Try.prog 128 = some 1 := by kernel_rfl
theorem knO_128 : knO Try.prog 128 = true := by kernel_rfl
theorem inO_128 : inO Try.prog 128 = some .u8 := by kernel_rfl
theorem agO_130 : aggO Try.prog 130 = some false := by kernel_rfl
theorem szO_130 : szO Try.prog 130 = some 1 := by kernel_rfl
theorem zrX_130 : zrX Try.prog 130 = some [.v (.pointer none)] := by kernel_rfl
theorem zrO_130 : zrO Try.prog 130 = some [.v (.pointer none)] := by kernel_rfl
theorem knO_130 : knO Try.prog 130 = true := by kernel_rfl
theorem agO_131 : aggO Try.prog 131 = some false := by kernel_rfl
theorem szO_131 : szO Try.prog 131 = some 1 := by kernel_rfl
theorem zrX_131 : zrX Try.prog 131 = some [.v (.int .i32 0)] := by kernel_rfl
theorem zrO_131 : zrO Try.prog 131 = some [.v (.int .i32 0)] := by kernel_rfl
theorem kdT_131 : kdT Try.prog 131 = some 1 := by kernel_rfl
theorem knO_131 : knO Try.prog 131 = true := by kernel_rfl
theorem inO_131 : inO Try.prog 131 = some .i32 := by kernel_rfl
theorem agO_132 : aggO Try.prog 132 = some false := by kernel_rfl
theorem szO_132 : szO Try.prog 132 = some 1 := by kernel_rfl
theorem zrX_132 : zrX Try.prog 132 = some [.v (.int .i32 0)] := by kernel_rfl
theorem zrO_132 : zrO Try.prog 132 = some [.v (.int .i32 0)] := by kernel_rfl
theorem kdT_132 : kdT Try.prog 132 = some 1 := by kernel_rfl
theorem knO_132 : knO Try.prog 132 = true := by kernel_rfl
theorem inO_132 : inO Try.prog 132 = some .i32 := by kernel_rfl
theorem agO_133 : aggO Try.prog 133 = some true := by kernel_rfl
theorem szO_133 : szO Try.prog 133 = some 11 := by kernel_rfl
theorem zrX_133 : zrX Try.prog 133 = some [.v (.int .u64 0), .v (.int .u64 0), .v (.int .u32 0), .v (.int .u8 0), .v (.int .u8 0), .v (.int .u8 0), .v (.int .u8 0), .v .nilFunc, .v (.pointer none), .v (.int .i32 0), .v (.int .i32 0)] := by kernel_rfl
theorem zrO_133 : zrO Try.prog 133 = some [.v (.int .u64 0), .v (.int .u64 0), .v (.int .u32 0), .v (.int .u8 0), .v (.int .u8 0), .v (.int .u8 0), .v (.int .u8 0), .v .nilFunc, .v (.pointer none), .v (.int .i32 0), .v (.int .i32 0)] := by kernel_rfl
theorem plO_133 : plO Try.prog 133 = some [(0, 1), (1, 1), (2, 1), (3, 1), (4, 1), (5, 1), (6, 1), (7, 1), (8, 1), (9, 1), (10, 1)] := by kernel_rfl
theorem fdO_133_0 : fdO Try.prog 133 0 = some (0, 1) := by kernel_rfl
theorem fdO_133_1 : fdO Try.prog 133 1 = some (1, 1) := by kernel_rfl
theorem fdO_133_2 : fdO Try.prog 133 2 = some (2, 1) := by kernel_rfl
theorem fdO_133_3 : fdO Try.prog 133 3 = some (3, 1) := by kernel_rfl
theorem fdO_133_4 : fdO Try.prog 133 4 = some (4, 1) := by kernel_rfl
theorem fdO_133_5 : fdO Try.prog 133 5 = some (5, 1) := by kernel_rfl
theorem fdO_133_6 : fdO Try.prog 133 6 = some (6, 1) := by kernel_rfl
theorem fdO_133_7 : fdO Try.prog 133 7 = some (7, 1) := by kernel_rfl
theorem fdO_133_8 : fdO Try.prog 133 8 = some (8, 1) := by kernel_rfl
theorem fdO_133_9 : fdO Try.prog 133 9 = some (9, 1) := by kernel_rfl
theorem fdO_133_10 : fdO Try.prog 133 10 = some (10, 1) := by kernel_rfl
theorem knO_133 : knO Try.prog 133 = true := by kernel_rfl
theorem agO_134 : aggO Try.prog 134 = some true := by kernel_rfl
theorem szO_134 : szO Try.prog 134 = some 11 := by kernel_rfl
theorem zrX_134 : zrX Try.prog 134 = some [.v (.int .u64 0), .v (.int .u64 0), .v (.int .u32 0), .v (.int .u8 0), .v (.int .u8 0), .v (.int .u8 0), .v (.int .u8 0), .v .nilFunc, .v (.pointer none), .v (.int .i32 0), .v (.int .i32 0)] := by kernel_rfl
theorem zrO_134 : zrO Try.prog 134 = some [.v (.int .u64 0), .v (.int .u64 0), .v (.int .u32 0), .v (.int .u8 0), .v (.int .u8 0), .v (.int .u8 0), .v (.int .u8 0), .v .nilFunc, .v (.pointer none), .v (.int .i32 0), .v (.int .i32 0)] := by kernel_rfl
theorem plO_134 : plO Try.prog 134 = some [(0, 1), (1, 1), (2, 1), (3, 1), (4, 1), (5, 1), (6, 1), (7, 1), (8, 1), (9, 1), (10, 1)] := by kernel_rfl
theorem fdO_134_0 : fdO Try.prog 134 0 = some (0, 1) := by kernel_rfl
theorem fdO_134_1 : fdO Try.prog 134 1 = some (1, 1) := by kernel_rfl
theorem fdO_134_2 : fdO Try.prog 134 2 = some (2, 1) := by kernel_rfl
theorem fdO_134_3 : fdO Try.prog 134 3 = some (3, 1) := by kernel_rfl
theorem fdO_134_4 : fdO Try.prog 134 4 = some (4, 1) := by kernel_rfl
theorem fdO_134_5 : fdO Try.prog 134 5 = some (5, 1) := by kernel_rfl
theorem fdO_134_6 : fdO Try.prog 134 6 = some (6, 1) := by kernel_rfl
theorem fdO_134_7 : fdO Try.prog 134 7 = some (7, 1) := by kernel_rfl
theorem fdO_134_8 : fdO Try.prog 134 8 = some (8, 1) := by kernel_rfl
theorem fdO_134_9 : fdO Try.prog 134 9 = some (9, 1) := by kernel_rfl
theorem fdO_134_10 : fdO Try.prog 134 10 = some (10, 1) := by kernel_rfl
theorem knO_134 : knO Try.prog 134 = true := by kernel_rfl
theorem ent_3 : Ent Try.prog 3 := ent_of Try.func3 (by kernel_rfl) rfl
theorem ent_4 : Ent Try.prog 4 := ent_of Try.func4 (by kernel_rfl) rfl
theorem ent_5 : Ent Try.prog 5 := ent_of Try.func5 (by kernel_rfl) rfl
theorem ent_6 : Ent Try.prog 6 := ent_of Try.func6 (by kernel_rfl) rfl
theorem ent_7 : Ent Try.prog 7 := ent_of Try.func7 (by kernel_rfl) rfl
theorem ent_8 : Ent Try.prog 8 := ent_of Try.func8 (by kernel_rfl) rfl
theorem ent_9 : Ent Try.prog 9 := ent_of Try.func9 (by kernel_rfl) rfl
theorem ent_10 : Ent Try.prog 10 := ent_of Try.func10 (by kernel_rfl) rfl
theorem ent_11 : Ent Try.prog 11 := ent_of Try.func11 (by kernel_rfl) rfl
theorem ent_12 : Ent Try.prog 12 := ent_of Try.func12 (by kernel_rfl) rfl
theorem ent_13 : Ent Try.prog 13 := ent_of Try.func13 (by kernel_rfl) rfl
theorem ent_14 : Ent Try.prog 14 := ent_of Try.func14 (by kernel_rfl) rfl
theorem ent_15 : Ent Try.prog 15 := ent_of Try.func15 (by kernel_rfl) rfl
theorem ent_16 : Ent Try.prog 16 := ent_of Try.func16 (by kernel_rfl) rfl
theorem ent_17 : Ent Try.prog 17 := ent_of Try.func17 (by kernel_rfl) rfl
theorem ent_18 : Ent Try.prog 18 := ent_of Try.func18 (by kernel_rfl) rfl
theorem ent_19 : Ent Try.prog 19 := ent_of Try.func19 (by kernel_rfl) rfl
theorem ent_20 : Ent Try.prog 20 := ent_of Try.func20 (by kernel_rfl) rfl
theorem ent_21 : Ent Try.prog 21 := ent_of Try.func21 (by kernel_rfl) rfl
theorem ent_22 : Ent Try.prog 22 := ent_of Try.func22 (by kernel_rfl) rfl
theorem ent_23 : Ent Try.prog 23 := ent_of Try.func23 (by kernel_rfl) rfl
theorem ent_24 : Ent Try.prog 24 := ent_of Try.func24 (by kernel_rfl) rfl
theorem ent_25 : Ent Try.prog 25 := ent_of Try.func25 (by kernel_rfl) rfl
theorem ent_26 : Ent Try.prog 26 := ent_of Try.func26 (by kernel_rfl) rfl
theorem ent_27 : Ent Try.prog 27 := ent_of Try.func27 (by kernel_rfl) rfl
theorem ent_28 : Ent Try.prog 28 := ent_of Try.func28 (by kernel_rfl) rfl
theorem ent_29 : Ent Try.prog 29 := ent_of Try.func29 (by kernel_rfl) rfl
theorem ent_30 : Ent Try.prog 30 := ent_of Try.func30 (by kernel_rfl) rfl
theorem ent_31 : Ent Try.prog 31 := ent_of Try.func31 (by kernel_rfl) rfl
theorem ent_32 : Ent Try.prog 32 := ent_of Try.func32 (by kernel_rfl) rfl
theorem ent_33 : Ent Try.prog 33 := ent_of Try.func33 (by kernel_rfl) rfl
theorem ent_34 : Ent Try.prog 34 := ent_of Try.func34 (by kernel_rfl) rfl
theorem ent_35 : Ent Try.prog 35 := ent_of Try.func35 (by kernel_rfl) rfl
theorem ent_36 : Ent Try.prog 36 := ent_of Try.func36 (by kernel_rfl) rfl
theorem ent_37 : Ent Try.prog 37 := ent_of Try.func37 (by kernel_rfl) rfl
theorem ent_38 : Ent Try.prog 38 := ent_of Try.func38 (by kernel_rfl) rfl
theorem ent_39 : Ent Try.prog 39 := ent_of Try.func39 (by kernel_rfl) rfl
theorem ent_40 : Ent Try.prog 40 := ent_of Try.func40 (by kernel_rfl) rfl
theorem ent_41 : Ent Try.prog 41 := ent_of Try.func41 (by kernel_rfl) rfl
theorem ent_42 : Ent Try.prog 42 := ent_of Try.func42 (by kernel_rfl) rfl
theorem ent_43 : Ent Try.prog 43 := ent_of Try.func43 (by kernel_rfl) rfl
theorem ent_44 : Ent Try.prog 44 := ent_of Try.func44 (by kernel_rfl) rfl
theorem ent_45 : Ent Try.prog 45 := ent_of Try.func45 (by kernel_rfl) rfl
theorem ent_46 : Ent Try.prog 46 := ent_of Try.func46 (by kernel_rfl) rfl
theorem ent_47 : Ent Try.prog 47 := ent_of Try.func47 (by kernel_rfl) rfl
theorem ent_48 : Ent Try.prog 48 := ent_of Try.func48 (by kernel_rfl) rfl
theorem ent_49 : Ent Try.prog 49 := ent_of Try.func49 (by kernel_rfl) rfl
theorem ent_50 : Ent Try.prog 50 := ent_of Try.func50 (by kernel_rfl) rfl
theorem ent_51 : Ent Try.prog 51 := ent_of Try.func51 (by kernel_rfl) rfl
theorem ent_52 : Ent Try.prog 52 := ent_of Try.func52 (by kernel_rfl) rfl
theorem ent_53 : Ent Try.prog 53 := ent_of Try.func53 (by kernel_rfl) rfl
theorem ent_54 : Ent Try.prog 54 := ent_of Try.func54 (by kernel_rfl) rfl
theorem ent_55 : Ent Try.prog 55 := ent_of Try.func55 (by kernel_rfl) rfl
theorem ent_56 : Ent Try.prog 56 := ent_of Try.func56 (by kernel_rfl) rfl
theorem ent_57 : Ent Try.prog 57 := ent_of Try.func57 (by kernel_rfl) rfl
theorem ent_58 : Ent Try.prog 58 := ent_of Try.func58 (by kernel_rfl) rfl
theorem ent_59 : Ent Try.prog 59 := ent_of Try.func59 (by kernel_rfl) rfl
theorem ent_60 : Ent Try.prog 60 := ent_of Try.func60 (by kernel_rfl) rfl
theorem ent_61 : Ent Try.prog 61 := ent_of Try.func61 (by kernel_rfl) rfl
theorem ent_62 : Ent Try.prog 62 := ent_of Try.func62 (by kernel_rfl) rfl
theorem ent_63 : Ent Try.prog 63 := ent_of Try.func63 (by kernel_rfl) rfl
theorem ent_64 : Ent Try.prog 64 := ent_of Try.func64 (by kernel_rfl) rfl
theorem ent_65 : Ent Try.prog 65 := ent_of Try.func65 (by kernel_rfl) rfl
theorem ent_66 : Ent Try.prog 66 := ent_of Try.func66 (by kernel_rfl) rfl
theorem ent_67 : Ent Try.prog 67 := ent_of Try.func67 (by kernel_rfl) rfl
theorem ent_68 : Ent Try.prog 68 := ent_of Try.func68 (by kernel_rfl) rfl
theorem ent_69 : Ent Try.prog 69 := ent_of Try.func69 (by kernel_rfl) rfl
theorem ent_70 : Ent Try.prog 70 := ent_of Try.func70 (by kernel_rfl) rfl
theorem ent_71 : Ent Try.prog 71 := ent_of Try.func71 (by kernel_rfl) rfl
theorem ent_72 : Ent Try.prog 72 := ent_of Try.func72 (by kernel_rfl) rfl
theorem ent_73 : Ent Try.prog 73 := ent_of Try.func73 (by kernel_rfl) rfl
theorem ent_74 : Ent Try.prog 74 := ent_of Try.func74 (by kernel_rfl) rfl
theorem ent_75 : Ent Try.prog 75 := ent_of Try.func75 (by kernel_rfl) rfl
theorem ent_76 : Ent Try.prog 76 := ent_of Try.func76 (by kernel_rfl) rfl
theorem ent_77 : Ent Try.prog 77 := ent_of Try.func77 (by kernel_rfl) rfl
theorem ent_78 : Ent Try.prog 78 := ent_of Try.func78 (by kernel_rfl) rfl
theorem ent_79 : Ent Try.prog 79 := ent_of Try.func79 (by kernel_rfl) rfl
theorem ent_80 : Ent Try.prog 80 := ent_of Try.func80 (by kernel_rfl) rfl
theorem ent_81 : Ent Try.prog 81 := ent_of Try.func81 (by kernel_rfl) rfl
theorem ent_82 : Ent Try.prog 82 := ent_of Try.func82 (by kernel_rfl) rfl
theorem ent_83 : Ent Try.prog 83 := ent_of Try.func83 (by kernel_rfl) rfl
theorem ent_84 : Ent Try.prog 84 := ent_of Try.func84 (by kernel_rfl) rfl
theorem ent_85 : Ent Try.prog 85 := ent_of Try.func85 (by kernel_rfl) rfl
theorem ent_86 : Ent Try.prog 86 := ent_of Try.func86 (by kernel_rfl) rfl
theorem ent_87 : Ent Try.prog 87 := ent_of Try.func87 (by kernel_rfl) rfl
theorem ent_88 : Ent Try.prog 88 := ent_of Try.func88 (by kernel_rfl) rfl
theorem ent_89 : Ent Try.prog 89 := ent_of Try.func89 (by kernel_rfl) rfl
theorem ent_90 : Ent Try.prog 90 := ent_of Try.func90 (by kernel_rfl) rfl
theorem ent_91 : Ent Try.prog 91 := ent_of Try.func91 (by kernel_rfl) rfl
theorem ent_92 : Ent Try.prog 92 := ent_of Try.func92 (by kernel_rfl) rfl
theorem ent_93 : Ent Try.prog 93 := ent_of Try.func93 (by kernel_rfl) rfl
theorem ent_94 : Ent Try.prog 94 := ent_of Try.func94 (by kernel_rfl) rfl
theorem ent_95 : Ent Try.prog 95 := ent_of Try.func95 (by kernel_rfl) rfl
theorem ent_96 : Ent Try.prog 96 := ent_of Try.func96 (by kernel_rfl) rfl
theorem ent_97 : Ent Try.prog 97 := ent_of Try.func97 (by kernel_rfl) rfl
theorem ent_98 : Ent Try.prog 98 := ent_of Try.func98 (by kernel_rfl) rfl
theorem ent_99 : Ent Try.prog 99 := ent_of Try.func99 (by kernel_rfl) rfl
theorem ent_100 : Ent Try.prog 100 := ent_of Try.func100 (by kernel_rfl) rfl
theorem ent_101 : Ent Try.prog 101 := ent_of Try.func101 (by kernel_rfl) rfl
theorem ent_102 : Ent Try.prog 102 := ent_of Try.func102 (by kernel_rfl) rfl
theorem ent_103 : Ent Try.prog 103 := ent_of Try.func103 (by kernel_rfl) rfl
theorem ent_104 : Ent Try.prog 104 := ent_of Try.func104 (by kernel_rfl) rfl
theorem ent_105 : Ent Try.prog 105 := ent_of Try.func105 (by kernel_rfl) rfl
theorem ent_106 : Ent Try.prog 106 := ent_of Try.func106 (by kernel_rfl) rfl
theorem ent_107 : Ent Try.prog 107 := ent_of Try.func107 (by kernel_rfl) rfl
theorem ent_108 : Ent Try.prog 108 := ent_of Try.func108 (by kernel_rfl) rfl
theorem ent_109 : Ent Try.prog 109 := ent_of Try.func109 (by kernel_rfl) rfl
theorem ent_110 : Ent Try.prog 110 := ent_of Try.func110 (by kernel_rfl) rfl
theorem ent_111 : Ent Try.prog 111 := ent_of Try.func111 (by kernel_rfl) rfl
theorem ent_112 : Ent Try.prog 112 := ent_of Try.func112 (by kernel_rfl) rfl
theorem ent_113 : Ent Try.prog 113 := ent_of Try.func113 (by kernel_rfl) rfl
theorem ent_114 : Ent Try.prog 114 := ent_of Try.func114 (by kernel_rfl) rfl
theorem ent_115 : Ent Try.prog 115 := ent_of Try.func115 (by kernel_rfl) rfl
theorem ent_116 : Ent Try.prog 116 := ent_of Try.func116 (by kernel_rfl) rfl
theorem ent_117 : Ent Try.prog 117 := ent_of Try.func117 (by kernel_rfl) rfl
theorem ent_118 : Ent Try.prog 118 := ent_of Try.func118 (by kernel_rfl) rfl
theorem ent_119 : Ent Try.prog 119 := ent_of Try.func119 (by kernel_rfl) rfl
theorem ent_120 : Ent Try.prog 120 := ent_of Try.func120 (by kernel_rfl) rfl
theorem ent_121 : Ent Try.prog 121 := ent_of Try.func121 (by kernel_rfl) rfl
theorem ent_122 : Ent Try.prog 122 := ent_of Try.func122 (by kernel_rfl) rfl
theorem mixd : Try.prog.follows .mixedOrders = true := by kernel_rfl
attribute [simp] argT aOps_nil aOps_cons aStep_yes aStep_no aDo_call aDo_op aCont_some aGo_fn gdA gdB gdC nth callOf fOp keepS ev get_hit get_miss get_nil ofV put fBinX fBin eqv eqvs fPick fLoad fStore fFieldA fIdxA fIdx fSliceX fSlice num fLenX fCall fCap fNew cellsA fExt fUn fNot fConvX fConv fNil fBuild fillA fBuildS fElems fMake fApp fAppZ fMin fMax oneA Value.oneCell' upd_eq upd_ne upd_upd del_eq del_ne w64 resL resV resO ovr_none ovr_one ovr_upd u8s dOps_nil dOps_cons dStep_yes dStep_no dDo_call dDo_op dCont_some dGo_fn opR opW rdN wrN nmAs nmA List.getElem?_cons_zero List.getElem?_cons_succ
attribute [simp] agO_2 szO_2 zrX_2 zrO_2 kdT_2 knO_2 inO_2 agO_3 szO_3 zrX_3 zrO_3 kdT_3 knO_3 inO_3 agO_4 szO_4 zrX_4 zrO_4 kdT_4 knO_4 agO_5 szO_5 zrX_5 zrO_5 kdT_5 knO_5 inO_5 agO_6 szO_6 zrX_6 zrO_6 kdT_6 knO_6 inO_6 agO_7 szO_7 zrX_7 zrO_7 plO_7 fdO_7_0 fdO_7_1 fdO_7_2 fdO_7_3 knO_7 agO_8 szO_8 zrX_8 zrO_8 plO_8 fdO_8_0 fdO_8_1 fdO_8_2 fdO_8_3 knO_8 agO_9 szO_9 zrX_9 zrO_9 slO_9 stO_9 kdT_9 knO_9 agO_10 szO_10 zrX_10 zrO_10 slO_10 stO_10 kdT_10 knO_10 agO_11 szO_11 zrX_11 zrO_11 slO_11 stO_11 kdT_11 knO_11 agO_12 szO_12 zrX_12 zrO_12 kdT_12 knO_12 inO_12 agO_13 szO_13 zrX_13 zrO_13 plO_13 fdO_13_0 fdO_13_1 knO_13 agO_14 szO_14 zrX_14 zrO_14 plO_14 fdO_14_0 fdO_14_1 knO_14 agO_15 szO_15 zrX_15 zrO_15 knO_15 agO_16 szO_16 zrX_16 zrO_16 knO_16 agO_17 szO_17 zrX_17 zrO_17 knO_17 agO_18 szO_18 zrX_18 zrO_18 plO_18 fdO_18_0 knO_18 agO_19 szO_19 zrX_19 zrO_19 plO_19 fdO_19_0 knO_19 agO_21 szO_21 zrX_21 zrO_21 kdT_21 knO_21 inO_21 agO_22 szO_22 zrX_22 zrO_22 elX_22 elO_22 slO_22 u8O_22 knO_22 agO_23 szO_23 zrX_23 zrO_23 elX_23 elO_23 slO_23 u8O_23 knO_23 agO_24 szO_24 zrX_24 zrO_24 plO_24 fdO_24_0 knO_24 agO_25 szO_25 zrX_25 zrO_25 plO_25 fdO_25_0 knO_25 agO_32 szO_32 zrX_32 zrO_32 plO_32 fdO_32_0 fdO_32_1 knO_32 agO_33 szO_33 zrX_33 zrO_33 plO_33 fdO_33_0 fdO_33_1 kdO_33 knO_33 agO_37 szO_37 zrX_37 zrO_37 elX_37 elO_37 slO_37 u8O_37 knO_37 agO_38 szO_38 zrX_38 zrO_38 plO_38 fdO_38_0 knO_38 agO_39 szO_39 zrX_39 zrO_39 plO_39 fdO_39_0 knO_39 agO_53 szO_53 zrX_53 zrO_53 elX_53 elO_53 slO_53 u8O_53 knO_53 agO_58 szO_58 zrX_58 zrO_58 elX_58 elO_58 slO_58 u8O_58 knO_58 agO_62 szO_62 zrX_62 zrO_62 elX_62 elO_62 slO_62 u8O_62 knO_62 agO_65 szO_65 zrX_65 zrO_65 plO_65 fdO_65_0 fdO_65_1 fdO_65_2 knO_65 agO_66 szO_66 zrX_66 zrO_66 plO_66 fdO_66_0 fdO_66_1 fdO_66_2 kdO_66 knO_66 agO_77 szO_77 zrX_77 zrO_77 knO_77 agO_106 szO_106 zrX_106 zrO_106 plO_106 fdO_106_0 fdO_106_1 knO_106 agO_107 szO_107 zrX_107 zrO_107 plO_107 fdO_107_0 fdO_107_1 knO_107 agO_112 szO_112 zrX_112 zrO_112 plO_112 fdO_112_0 fdO_112_1 kdO_112 knO_112 agO_116 szO_116 zrX_116 zrO_116 elX_116 elO_116 slO_116 u8O_116 knO_116 agO_120 szO_120 zrX_120 zrO_120 plO_120 fdO_120_0 fdO_120_1 fdO_120_2 fdO_120_3 knO_120 agO_121 szO_121 zrX_121 zrO_121 plO_121 fdO_121_0 fdO_121_1 fdO_121_2 fdO_121_3 knO_121 agO_123 szO_123 zrX_123 zrO_123 plO_123 knO_123 agO_124 szO_124 zrX_124 zrO_124 plO_124 knO_124 agO_126 szO_126 zrX_126 zrO_126 kdT_126 knO_126 inO_126 agO_127 szO_127 zrX_127 zrO_127 kdT_127 knO_127 inO_127 agO_128 szO_128 zrX_128 zrO_128 kdT_128 knO_128 inO_128 agO_130 szO_130 zrX_130 zrO_130 knO_130 agO_131 szO_131 zrX_131 zrO_131 kdT_131 knO_131 inO_131 agO_132 szO_132 zrX_132 zrO_132 kdT_132 knO_132 inO_132 agO_133 szO_133 zrX_133 zrO_133 plO_133 fdO_133_0 fdO_133_1 fdO_133_2 fdO_133_3 fdO_133_4 fdO_133_5 fdO_133_6 fdO_133_7 fdO_133_8 fdO_133_9 fdO_133_10 knO_133 agO_134 szO_134 zrX_134 zrO_134 plO_134 fdO_134_0 fdO_134_1 fdO_134_2 fdO_134_3 fdO_134_4 fdO_134_5 fdO_134_6 fdO_134_7 fdO_134_8 fdO_134_9 fdO_134_10 knO_134
end Go.Proofs.Ythjjfdbkggiaeaa
