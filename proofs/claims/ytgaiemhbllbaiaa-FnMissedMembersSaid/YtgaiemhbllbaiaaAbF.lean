/- The closed facts on the program's tables of types. No condition. MADE BY A PROGRAM (facts.py). -/
import Derived.Test.YtgaiemhbllbaiaaLB
import Derived.Test.YtgaiemhbllbaiaaRows
set_option linter.unusedSimpArgs false
set_option linter.unusedVariables false
namespace Go.Proofs.Ytgaiemhbllbaiaa
open Go Go.RowKit
theorem agO_2 : aggO Try.prog 2 = some false := by kernel_rfl
theorem szO_2 : szO Try.prog 2 = some 1 := by kernel_rfl
theorem zrX_2 : zrX Try.prog 2 = some [.v (.int .i64 0)] := by kernel_rfl
theorem zrO_2 : zrO Try.prog 2 = some [.v (.int .i64 0)] := by kernel_rfl
theorem kdT_2 : kdT Try.prog 2 = some 1 := by kernel_rfl
theorem knO_2 : knO Try.prog 2 = true := by kernel_rfl
theorem inO_2 : inO Try.prog 2 = some .i64 := by kernel_rfl
theorem agO_3 : aggO Try.prog 3 = some false := by kernel_rfl
theorem szO_3 : szO Try.prog 3 = some 1 := by kernel_rfl
theorem zrX_3 : zrX Try.prog 3 = some [.v (.int .i64 0)] := by kernel_rfl
theorem zrO_3 : zrO Try.prog 3 = some [.v (.int .i64 0)] := by kernel_rfl
theorem kdT_3 : kdT Try.prog 3 = some 1 := by kernel_rfl
theorem knO_3 : knO Try.prog 3 = true := by kernel_rfl
theorem inO_3 : inO Try.prog 3 = some .i64 := by kernel_rfl
theorem agO_4 : aggO Try.prog 4 = some false := by kernel_rfl
theorem szO_4 : szO Try.prog 4 = some 1 := by kernel_rfl
theorem zrX_4 : zrX Try.prog 4 = some [.v (.bool false)] := by kernel_rfl
theorem zrO_4 : zrO Try.prog 4 = some [.v (.bool false)] := by kernel_rfl
theorem kdT_4 : kdT Try.prog 4 = some 0 := by kernel_rfl
theorem knO_4 : knO Try.prog 4 = true := by kernel_rfl
theorem agO_5 : aggO Try.prog 5 = some false := by kernel_rfl
theorem szO_5 : szO Try.prog 5 = some 1 := by kernel_rfl
theorem zrX_5 : zrX Try.prog 5 = some [.v (.int .u8 0)] := by kernel_rfl
theorem zrO_5 : zrO Try.prog 5 = some [.v (.int .u8 0)] := by kernel_rfl
theorem kdT_5 : kdT Try.prog 5 = some 1 := by kernel_rfl
theorem knO_5 : knO Try.prog 5 = true := by kernel_rfl
theorem inO_5 : inO Try.prog 5 = some .u8 := by kernel_rfl
theorem agO_6 : aggO Try.prog 6 = some false := by kernel_rfl
theorem szO_6 : szO Try.prog 6 = some 1 := by kernel_rfl
theorem zrX_6 : zrX Try.prog 6 = some [.v (.int .u8 0)] := by kernel_rfl
theorem zrO_6 : zrO Try.prog 6 = some [.v (.int .u8 0)] := by kernel_rfl
theorem kdT_6 : kdT Try.prog 6 = some 1 := by kernel_rfl
theorem knO_6 : knO Try.prog 6 = true := by kernel_rfl
theorem inO_6 : inO Try.prog 6 = some .u8 := by kernel_rfl
theorem agO_7 : aggO Try.prog 7 = some true := by kernel_rfl
theorem szO_7 : szO Try.prog 7 = some 4 := by kernel_rfl
theorem zrX_7 : zrX Try.prog 7 = some [.v (.int .i64 0), .v (.int .i64 0), .v (.bool false), .v (.int .u8 0)] := by kernel_rfl
theorem zrO_7 : zrO Try.prog 7 = some [.v (.int .i64 0), .v (.int .i64 0), .v (.bool false), .v (.int .u8 0)] := by kernel_rfl
theorem plO_7 : plO Try.prog 7 = some [(0, 1), (1, 1), (2, 1), (3, 1)] := by kernel_rfl
theorem fdO_7_0 : fdO Try.prog 7 0 = some (0, 1) := by kernel_rfl
theorem fdO_7_1 : fdO Try.prog 7 1 = some (1, 1) := by kernel_rfl
theorem fdO_7_2 : fdO Try.prog 7 2 = some (2, 1) := by kernel_rfl
theorem fdO_7_3 : fdO Try.prog 7 3 = some (3, 1) := by kernel_rfl
theorem knO_7 : knO Try.prog 7 = true := by kernel_rfl
theorem agO_8 : aggO Try.prog 8 = some true := by kernel_rfl
theorem szO_8 : szO Try.prog 8 = some 4 := by kernel_rfl
theorem zrX_8 : zrX Try.prog 8 = some [.v (.int .i64 0), .v (.int .i64 0), .v (.bool false), .v (.int .u8 0)] := by kernel_rfl
theorem zrO_8 : zrO Try.prog 8 = some [.v (.int .i64 0), .v (.int .i64 0), .v (.bool false), .v (.int .u8 0)] := by kernel_rfl
theorem plO_8 : plO Try.prog 8 = some [(0, 1), (1, 1), (2, 1), (3, 1)] := by kernel_rfl
theorem fdO_8_0 : fdO Try.prog 8 0 = some (0, 1) := by kernel_rfl
theorem fdO_8_1 : fdO Try.prog 8 1 = some (1, 1) := by kernel_rfl
theorem fdO_8_2 : fdO Try.prog 8 2 = some (2, 1) := by kernel_rfl
theorem fdO_8_3 : fdO Try.prog 8 3 = some (3, 1) := by kernel_rfl
theorem knO_8 : knO Try.prog 8 = true := by kernel_rfl
theorem agO_9 : aggO Try.prog 9 = some false := by kernel_rfl
theorem szO_9 : szO Try.prog 9 = some 1 := by kernel_rfl
theorem zrX_9 : zrX Try.prog 9 = some [.v (.string ByteArray.empty)] := by kernel_rfl
theorem zrO_9 : zrO Try.prog 9 = some [.v (.string ByteArray.empty)] := by kernel_rfl
theorem slO_9 : slO Try.prog 9 = some none := by kernel_rfl
theorem stO_9 : stO Try.prog 9 = true := by kernel_rfl
theorem kdT_9 : kdT Try.prog 9 = some 2 := by kernel_rfl
theorem knO_9 : knO Try.prog 9 = true := by kernel_rfl
theorem agO_10 : aggO Try.prog 10 = some false := by kernel_rfl
theorem szO_10 : szO Try.prog 10 = some 1 := by kernel_rfl
theorem zrX_10 : zrX Try.prog 10 = some [.v (.string ByteArray.empty)] := by kernel_rfl
theorem zrO_10 : zrO Try.prog 10 = some [.v (.string ByteArray.empty)] := by kernel_rfl
theorem slO_10 : slO Try.prog 10 = some none := by kernel_rfl
theorem stO_10 : stO Try.prog 10 = true := by kernel_rfl
theorem kdT_10 : kdT Try.prog 10 = some 2 := by kernel_rfl
theorem knO_10 : knO Try.prog 10 = true := by kernel_rfl
theorem agO_11 : aggO Try.prog 11 = some false := by kernel_rfl
theorem szO_11 : szO Try.prog 11 = some 1 := by kernel_rfl
theorem zrX_11 : zrX Try.prog 11 = some [.v (.string ByteArray.empty)] := by kernel_rfl
theorem zrO_11 : zrO Try.prog 11 = some [.v (.string ByteArray.empty)] := by kernel_rfl
theorem slO_11 : slO Try.prog 11 = some none := by kernel_rfl
theorem stO_11 : stO Try.prog 11 = true := by kernel_rfl
theorem kdT_11 : kdT Try.prog 11 = some 2 := by kernel_rfl
theorem knO_11 : knO Try.prog 11 = true := by kernel_rfl
theorem agO_12 : aggO Try.prog 12 = some false := by kernel_rfl
theorem szO_12 : szO Try.prog 12 = some 1 := by kernel_rfl
theorem zrX_12 : zrX Try.prog 12 = some [.v (.int .u64 0)] := by kernel_rfl
theorem zrO_12 : zrO Try.prog 12 = some [.v (.int .u64 0)] := by kernel_rfl
theorem kdT_12 : kdT Try.prog 12 = some 1 := by kernel_rfl
theorem knO_12 : knO Try.prog 12 = true := by kernel_rfl
theorem inO_12 : inO Try.prog 12 = some .u64 := by kernel_rfl
theorem agO_13 : aggO Try.prog 13 = some true := by kernel_rfl
theorem szO_13 : szO Try.prog 13 = some 2 := by kernel_rfl
theorem zrX_13 : zrX Try.prog 13 = some [.v (.string ByteArray.empty), .v (.int .u64 0)] := by kernel_rfl
theorem zrO_13 : zrO Try.prog 13 = some [.v (.string ByteArray.empty), .v (.int .u64 0)] := by kernel_rfl
theorem plO_13 : plO Try.prog 13 = some [(0, 1), (1, 1)] := by kernel_rfl
theorem fdO_13_0 : fdO Try.prog 13 0 = some (0, 1) := by kernel_rfl
theorem fdO_13_1 : fdO Try.prog 13 1 = some (1, 1) := by kernel_rfl
theorem knO_13 : knO Try.prog 13 = true := by kernel_rfl
theorem agO_14 : aggO Try.prog 14 = some true := by kernel_rfl
theorem szO_14 : szO Try.prog 14 = some 2 := by kernel_rfl
theorem zrX_14 : zrX Try.prog 14 = some [.v (.string ByteArray.empty), .v (.int .u64 0)] := by kernel_rfl
theorem zrO_14 : zrO Try.prog 14 = some [.v (.string ByteArray.empty), .v (.int .u64 0)] := by kernel_rfl
theorem plO_14 : plO Try.prog 14 = some [(0, 1), (1, 1)] := by kernel_rfl
theorem fdO_14_0 : fdO Try.prog 14 0 = some (0, 1) := by kernel_rfl
theorem fdO_14_1 : fdO Try.prog 14 1 = some (1, 1) := by kernel_rfl
theorem knO_14 : knO Try.prog 14 = true := by kernel_rfl
theorem agO_15 : aggO Try.prog 15 = some false := by kernel_rfl
theorem szO_15 : szO Try.prog 15 = some 1 := by kernel_rfl
theorem zrX_15 : zrX Try.prog 15 = some [.v (.pointer none)] := by kernel_rfl
theorem zrO_15 : zrO Try.prog 15 = some [.v (.pointer none)] := by kernel_rfl
theorem knO_15 : knO Try.prog 15 = true := by kernel_rfl
theorem agO_16 : aggO Try.prog 16 = some false := by kernel_rfl
theorem szO_16 : szO Try.prog 16 = some 1 := by kernel_rfl
theorem zrX_16 : zrX Try.prog 16 = some [.v (.pointer none)] := by kernel_rfl
theorem zrO_16 : zrO Try.prog 16 = some [.v (.pointer none)] := by kernel_rfl
theorem knO_16 : knO Try.prog 16 = true := by kernel_rfl
theorem agO_17 : aggO Try.prog 17 = some false := by kernel_rfl
theorem szO_17 : szO Try.prog 17 = some 1 := by kernel_rfl
theorem zrX_17 : zrX Try.prog 17 = some [.v (.pointer none)] := by kernel_rfl
theorem zrO_17 : zrO Try.prog 17 = some [.v (.pointer none)] := by kernel_rfl
theorem knO_17 : knO Try.prog 17 = true := by kernel_rfl
theorem agO_18 : aggO Try.prog 18 = some true := by kernel_rfl
theorem szO_18 : szO Try.prog 18 = some 1 := by kernel_rfl
theorem zrX_18 : zrX Try.prog 18 = some [.v (.pointer none)] := by kernel_rfl
theorem zrO_18 : zrO Try.prog 18 = some [.v (.pointer none)] := by kernel_rfl
theorem plO_18 : plO Try.prog 18 = some [(0, 1)] := by kernel_rfl
theorem fdO_18_0 : fdO Try.prog 18 0 = some (0, 1) := by kernel_rfl
theorem knO_18 : knO Try.prog 18 = true := by kernel_rfl
theorem agO_19 : aggO Try.prog 19 = some true := by kernel_rfl
theorem szO_19 : szO Try.prog 19 = some 1 := by kernel_rfl
theorem zrX_19 : zrX Try.prog 19 = some [.v (.pointer none)] := by kernel_rfl
theorem zrO_19 : zrO Try.prog 19 = some [.v (.pointer none)] := by kernel_rfl
theorem plO_19 : plO Try.prog 19 = some [(0, 1)] := by kernel_rfl
theorem fdO_19_0 : fdO Try.prog 19 0 = some (0, 1) := by kernel_rfl
theorem knO_19 : knO Try.prog 19 = true := by kernel_rfl
theorem agO_21 : aggO Try.prog 21 = some false := by kernel_rfl
theorem szO_21 : szO Try.prog 21 = some 1 := by kernel_rfl
theorem zrX_21 : zrX Try.prog 21 = some [.v (.int .i32 0)] := by kernel_rfl
theorem zrO_21 : zrO Try.prog 21 = some [.v (.int .i32 0)] := by kernel_rfl
theorem kdT_21 : kdT Try.prog 21 = some 1 := by kernel_rfl
theorem knO_21 : knO Try.prog 21 = true := by kernel_rfl
theorem inO_21 : inO Try.prog 21 = some .i32 := by kernel_rfl
theorem agO_22 : aggO Try.prog 22 = some false := by kernel_rfl
theorem szO_22 : szO Try.prog 22 = some 1 := by kernel_rfl
theorem zrX_22 : zrX Try.prog 22 = some [.sl 0 0 0 (some 0) 0] := by kernel_rfl
theorem zrO_22 : zrO Try.prog 22 = some [.sl 0 0 0 (some 0) 0] := by kernel_rfl
theorem elX_22 : elX Try.prog 22 = some (5, 1, 1) := by kernel_rfl
theorem elO_22 : elO Try.prog 22 = some 5 := by kernel_rfl
theorem slO_22 : slO Try.prog 22 = some (some 1) := by kernel_rfl
theorem u8O_22 : u8O Try.prog 22 = true := by kernel_rfl
theorem knO_22 : knO Try.prog 22 = true := by kernel_rfl
theorem agO_23 : aggO Try.prog 23 = some false := by kernel_rfl
theorem szO_23 : szO Try.prog 23 = some 1 := by kernel_rfl
theorem zrX_23 : zrX Try.prog 23 = some [.sl 0 0 0 (some 0) 0] := by kernel_rfl
theorem zrO_23 : zrO Try.prog 23 = some [.sl 0 0 0 (some 0) 0] := by kernel_rfl
theorem elX_23 : elX Try.prog 23 = some (34, 2, 24) := by kernel_rfl
theorem elO_23 : elO Try.prog 23 = some 34 := by kernel_rfl
theorem slO_23 : slO Try.prog 23 = some (some 2) := by kernel_rfl
theorem u8O_23 : u8O Try.prog 23 = false := by kernel_rfl
theorem knO_23 : knO Try.prog 23 = true := by kernel_rfl
theorem agO_24 : aggO Try.prog 24 = some true := by kernel_rfl
theorem szO_24 : szO Try.prog 24 = some 1 := by kernel_rfl
theorem zrX_24 : zrX Try.prog 24 = some [.sl 0 0 0 (some 0) 0] := by kernel_rfl
theorem zrO_24 : zrO Try.prog 24 = some [.sl 0 0 0 (some 0) 0] := by kernel_rfl
theorem plO_24 : plO Try.prog 24 = some [(0, 1)] := by kernel_rfl
theorem fdO_24_0 : fdO Try.prog 24 0 = some (0, 1) := by kernel_rfl
theorem knO_24 : knO Try.prog 24 = true := by kernel_rfl
theorem agO_25 : aggO Try.prog 25 = some true := by kernel_rfl
theorem szO_25 : szO Try.prog 25 = some 1 := by kernel_rfl
theorem zrX_25 : zrX Try.prog 25 = some [.sl 0 0 0 (some 0) 0] := by kernel_rfl
theorem zrO_25 : zrO Try.prog 25 = some [.sl 0 0 0 (some 0) 0] := by kernel_rfl
theorem plO_25 : plO Try.prog 25 = some [(0, 1)] := by kernel_rfl
theorem fdO_25_0 : fdO Try.prog 25 0 = some (0, 1) := by kernel_rfl
theorem knO_25 : knO Try.prog 25 = true := by kernel_rfl
theorem agO_33 : aggO Try.prog 33 = some true := by kernel_rfl
theorem szO_33 : szO Try.prog 33 = some 2 := by kernel_rfl
theorem zrX_33 : zrX Try.prog 33 = some [.v (.string ByteArray.empty), .v (.int .i64 0)] := by kernel_rfl
theorem zrO_33 : zrO Try.prog 33 = some [.v (.string ByteArray.empty), .v (.int .i64 0)] := by kernel_rfl
theorem plO_33 : plO Try.prog 33 = some [(0, 1), (1, 1)] := by kernel_rfl
theorem fdO_33_0 : fdO Try.prog 33 0 = some (0, 1) := by kernel_rfl
theorem fdO_33_1 : fdO Try.prog 33 1 = some (1, 1) := by kernel_rfl
theorem knO_33 : knO Try.prog 33 = true := by kernel_rfl
theorem agO_34 : aggO Try.prog 34 = some true := by kernel_rfl
theorem szO_34 : szO Try.prog 34 = some 2 := by kernel_rfl
theorem zrX_34 : zrX Try.prog 34 = some [.v (.string ByteArray.empty), .v (.int .i64 0)] := by kernel_rfl
theorem zrO_34 : zrO Try.prog 34 = some [.v (.string ByteArray.empty), .v (.int .i64 0)] := by kernel_rfl
theorem plO_34 : plO Try.prog 34 = some [(0, 1), (1, 1)] := by kernel_rfl
theorem fdO_34_0 : fdO Try.prog 34 0 = some (0, 1) := by kernel_rfl
theorem fdO_34_1 : fdO Try.prog 34 1 = some (1, 1) := by kernel_rfl
theorem kdO_34 : kdO Try.prog 34 = some [2, 1] := by kernel_rfl
theorem knO_34 : knO Try.prog 34 = true := by kernel_rfl
theorem agO_36 : aggO Try.prog 36 = some false := by kernel_rfl
theorem szO_36 : szO Try.prog 36 = some 1 := by kernel_rfl
theorem zrX_36 : zrX Try.prog 36 = some [.sl 0 0 0 (some 0) 0] := by kernel_rfl
theorem zrO_36 : zrO Try.prog 36 = some [.sl 0 0 0 (some 0) 0] := by kernel_rfl
theorem elX_36 : elX Try.prog 36 = some (77, 4, 40) := by kernel_rfl
theorem elO_36 : elO Try.prog 36 = some 77 := by kernel_rfl
theorem slO_36 : slO Try.prog 36 = some (some 4) := by kernel_rfl
theorem u8O_36 : u8O Try.prog 36 = false := by kernel_rfl
theorem knO_36 : knO Try.prog 36 = true := by kernel_rfl
theorem agO_41 : aggO Try.prog 41 = some false := by kernel_rfl
theorem szO_41 : szO Try.prog 41 = some 1 := by kernel_rfl
theorem zrX_41 : zrX Try.prog 41 = some [.sl 0 0 0 (some 0) 0] := by kernel_rfl
theorem zrO_41 : zrO Try.prog 41 = some [.sl 0 0 0 (some 0) 0] := by kernel_rfl
theorem elX_41 : elX Try.prog 41 = some (117, 2, 24) := by kernel_rfl
theorem elO_41 : elO Try.prog 41 = some 117 := by kernel_rfl
theorem slO_41 : slO Try.prog 41 = some (some 2) := by kernel_rfl
theorem u8O_41 : u8O Try.prog 41 = false := by kernel_rfl
theorem knO_41 : knO Try.prog 41 = true := by kernel_rfl
theorem agO_42 : aggO Try.prog 42 = some true := by kernel_rfl
theorem szO_42 : szO Try.prog 42 = some 1 := by kernel_rfl
theorem zrX_42 : zrX Try.prog 42 = some [.sl 0 0 0 (some 0) 0] := by kernel_rfl
theorem zrO_42 : zrO Try.prog 42 = some [.sl 0 0 0 (some 0) 0] := by kernel_rfl
theorem plO_42 : plO Try.prog 42 = some [(0, 1)] := by kernel_rfl
theorem fdO_42_0 : fdO Try.prog 42 0 = some (0, 1) := by kernel_rfl
theorem knO_42 : knO Try.prog 42 = true := by kernel_rfl
theorem agO_43 : aggO Try.prog 43 = some true := by kernel_rfl
theorem szO_43 : szO Try.prog 43 = some 1 := by kernel_rfl
theorem zrX_43 : zrX Try.prog 43 = some [.sl 0 0 0 (some 0) 0] := by kernel_rfl
theorem zrO_43 : zrO Try.prog 43 = some [.sl 0 0 0 (some 0) 0] := by kernel_rfl
theorem plO_43 : plO Try.prog 43 = some [(0, 1)] := by kernel_rfl
theorem fdO_43_0 : fdO Try.prog 43 0 = some (0, 1) := by kernel_rfl
theorem knO_43 : knO Try.prog 43 = true := by kernel_rfl
theorem agO_51 : aggO Try.prog 51 = some false := by kernel_rfl
theorem szO_51 : szO Try.prog 51 = some 1 := by kernel_rfl
theorem zrX_51 : zrX Try.prog 51 = some [.sl 0 0 0 (some 0) 0] := by kernel_rfl
theorem zrO_51 : zrO Try.prog 51 = some [.sl 0 0 0 (some 0) 0] := by kernel_rfl
theorem elX_51 : elX Try.prog 51 = some (9, 1, 16) := by kernel_rfl
theorem elO_51 : elO Try.prog 51 = some 9 := by kernel_rfl
theorem slO_51 : slO Try.prog 51 = some (some 1) := by kernel_rfl
theorem u8O_51 : u8O Try.prog 51 = false := by kernel_rfl
theorem knO_51 : knO Try.prog 51 = true := by kernel_rfl
theorem agO_61 : aggO Try.prog 61 = some true := by kernel_rfl
theorem szO_61 : szO Try.prog 61 = some 2 := by kernel_rfl
theorem zrX_61 : zrX Try.prog 61 = some [.sl 0 0 0 (some 0) 0, .v (.int .i64 0)] := by kernel_rfl
theorem zrO_61 : zrO Try.prog 61 = some [.sl 0 0 0 (some 0) 0, .v (.int .i64 0)] := by kernel_rfl
theorem plO_61 : plO Try.prog 61 = some [(0, 1), (1, 1)] := by kernel_rfl
theorem fdO_61_0 : fdO Try.prog 61 0 = some (0, 1) := by kernel_rfl
theorem fdO_61_1 : fdO Try.prog 61 1 = some (1, 1) := by kernel_rfl
theorem knO_61 : knO Try.prog 61 = true := by kernel_rfl
theorem agO_62 : aggO Try.prog 62 = some true := by kernel_rfl
theorem szO_62 : szO Try.prog 62 = some 2 := by kernel_rfl
theorem zrX_62 : zrX Try.prog 62 = some [.sl 0 0 0 (some 0) 0, .v (.int .i64 0)] := by kernel_rfl
theorem zrO_62 : zrO Try.prog 62 = some [.sl 0 0 0 (some 0) 0, .v (.int .i64 0)] := by kernel_rfl
theorem plO_62 : plO Try.prog 62 = some [(0, 1), (1, 1)] := by kernel_rfl
theorem fdO_62_0 : fdO Try.prog 62 0 = some (0, 1) := by kernel_rfl
theorem fdO_62_1 : fdO Try.prog 62 1 = some (1, 1) := by kernel_rfl
theorem knO_62 : knO Try.prog 62 = true := by kernel_rfl
theorem agO_69 : aggO Try.prog 69 = some false := by kernel_rfl
theorem szO_69 : szO Try.prog 69 = some 1 := by kernel_rfl
theorem zrX_69 : zrX Try.prog 69 = some [.v (.pointer none)] := by kernel_rfl
theorem zrO_69 : zrO Try.prog 69 = some [.v (.pointer none)] := by kernel_rfl
theorem knO_69 : knO Try.prog 69 = true := by kernel_rfl
theorem agO_76 : aggO Try.prog 76 = some true := by kernel_rfl
theorem szO_76 : szO Try.prog 76 = some 4 := by kernel_rfl
theorem zrX_76 : zrX Try.prog 76 = some [.v (.int .i64 0), .v (.string ByteArray.empty), .v (.int .i64 0), .v (.int .i64 0)] := by kernel_rfl
theorem zrO_76 : zrO Try.prog 76 = some [.v (.int .i64 0), .v (.string ByteArray.empty), .v (.int .i64 0), .v (.int .i64 0)] := by kernel_rfl
theorem plO_76 : plO Try.prog 76 = some [(0, 1), (1, 1), (2, 1), (3, 1)] := by kernel_rfl
theorem fdO_76_0 : fdO Try.prog 76 0 = some (0, 1) := by kernel_rfl
theorem fdO_76_1 : fdO Try.prog 76 1 = some (1, 1) := by kernel_rfl
theorem fdO_76_2 : fdO Try.prog 76 2 = some (2, 1) := by kernel_rfl
theorem fdO_76_3 : fdO Try.prog 76 3 = some (3, 1) := by kernel_rfl
theorem knO_76 : knO Try.prog 76 = true := by kernel_rfl
theorem agO_77 : aggO Try.prog 77 = some true := by kernel_rfl
theorem szO_77 : szO Try.prog 77 = some 4 := by kernel_rfl
theorem zrX_77 : zrX Try.prog 77 = some [.v (.int .i64 0), .v (.string ByteArray.empty), .v (.int .i64 0), .v (.int .i64 0)] := by kernel_rfl
theorem zrO_77 : zrO Try.prog 77 = some [.v (.int .i64 0), .v (.string ByteArray.empty), .v (.int .i64 0), .v (.int .i64 0)] := by kernel_rfl
theorem plO_77 : plO Try.prog 77 = some [(0, 1), (1, 1), (2, 1), (3, 1)] := by kernel_rfl
theorem fdO_77_0 : fdO Try.prog 77 0 = some (0, 1) := by kernel_rfl
theorem fdO_77_1 : fdO Try.prog 77 1 = some (1, 1) := by kernel_rfl
theorem fdO_77_2 : fdO Try.prog 77 2 = some (2, 1) := by kernel_rfl
theorem fdO_77_3 : fdO Try.prog 77 3 = some (3, 1) := by kernel_rfl
theorem kdO_77 : kdO Try.prog 77 = some [1, 2, 1, 1] := by kernel_rfl
theorem knO_77 : knO Try.prog 77 = true := by kernel_rfl
theorem agO_93 : aggO Try.prog 93 = some false := by kernel_rfl
theorem szO_93 : szO Try.prog 93 = some 1 := by kernel_rfl
theorem zrX_93 : zrX Try.prog 93 = some [.v (.map none)] := by kernel_rfl
theorem zrO_93 : zrO Try.prog 93 = some [.v (.map none)] := by kernel_rfl
theorem knO_93 : knO Try.prog 93 = true := by kernel_rfl
theorem agO_97 : aggO Try.prog 97 = some false := by kernel_rfl
theorem szO_97 : szO Try.prog 97 = some 1 := by kernel_rfl
theorem zrX_97 : zrX Try.prog 97 = some [.sl 0 0 0 (some 0) 0] := by kernel_rfl
theorem zrO_97 : zrO Try.prog 97 = some [.sl 0 0 0 (some 0) 0] := by kernel_rfl
theorem elX_97 : elX Try.prog 97 = some (3, 1, 8) := by kernel_rfl
theorem elO_97 : elO Try.prog 97 = some 3 := by kernel_rfl
theorem slO_97 : slO Try.prog 97 = some (some 1) := by kernel_rfl
theorem u8O_97 : u8O Try.prog 97 = false := by kernel_rfl
theorem knO_97 : knO Try.prog 97 = true := by kernel_rfl
theorem agO_107 : aggO Try.prog 107 = some true := by kernel_rfl
theorem szO_107 : szO Try.prog 107 = some 2 := by kernel_rfl
theorem zrX_107 : zrX Try.prog 107 = some [.sl 0 0 0 (some 0) 0, .v (.int .i64 0)] := by kernel_rfl
theorem zrO_107 : zrO Try.prog 107 = some [.sl 0 0 0 (some 0) 0, .v (.int .i64 0)] := by kernel_rfl
theorem plO_107 : plO Try.prog 107 = some [(0, 1), (1, 1)] := by kernel_rfl
theorem fdO_107_0 : fdO Try.prog 107 0 = some (0, 1) := by kernel_rfl
theorem fdO_107_1 : fdO Try.prog 107 1 = some (1, 1) := by kernel_rfl
theorem knO_107 : knO Try.prog 107 = true := by kernel_rfl
theorem agO_108 : aggO Try.prog 108 = some true := by kernel_rfl
theorem szO_108 : szO Try.prog 108 = some 2 := by kernel_rfl
theorem zrX_108 : zrX Try.prog 108 = some [.sl 0 0 0 (some 0) 0, .v (.int .i64 0)] := by kernel_rfl
theorem zrO_108 : zrO Try.prog 108 = some [.sl 0 0 0 (some 0) 0, .v (.int .i64 0)] := by kernel_rfl
theorem plO_108 : plO Try.prog 108 = some [(0, 1), (1, 1)] := by kernel_rfl
theorem fdO_108_0 : fdO Try.prog 108 0 = some (0, 1) := by kernel_rfl
theorem fdO_108_1 : fdO Try.prog 108 1 = some (1, 1) := by kernel_rfl
theorem knO_108 : knO Try.prog 108 = true := by kernel_rfl
theorem agO_110 : aggO Try.prog 110 = some false := by kernel_rfl
theorem szO_110 : szO Try.prog 110 = some 1 := by kernel_rfl
theorem zrX_110 : zrX Try.prog 110 = some [.sl 0 0 0 (some 0) 0] := by kernel_rfl
theorem zrO_110 : zrO Try.prog 110 = some [.sl 0 0 0 (some 0) 0] := by kernel_rfl
theorem elX_110 : elX Try.prog 110 = some (36, 1, 24) := by kernel_rfl
theorem elO_110 : elO Try.prog 110 = some 36 := by kernel_rfl
theorem slO_110 : slO Try.prog 110 = some (some 1) := by kernel_rfl
theorem u8O_110 : u8O Try.prog 110 = false := by kernel_rfl
theorem knO_110 : knO Try.prog 110 = true := by kernel_rfl
theorem agO_117 : aggO Try.prog 117 = some true := by kernel_rfl
theorem szO_117 : szO Try.prog 117 = some 2 := by kernel_rfl
theorem zrX_117 : zrX Try.prog 117 = some [.v (.string ByteArray.empty), .v (.int .i64 0)] := by kernel_rfl
theorem zrO_117 : zrO Try.prog 117 = some [.v (.string ByteArray.empty), .v (.int .i64 0)] := by kernel_rfl
theorem plO_117 : plO Try.prog 117 = some [(0, 1), (1, 1)] := by kernel_rfl
theorem fdO_117_0 : fdO Try.prog 117 0 = some (0, 1) := by kernel_rfl
theorem fdO_117_1 : fdO Try.prog 117 1 = some (1, 1) := by kernel_rfl
theorem kdO_117 : kdO Try.prog 117 = some [2, 1] := by kernel_rfl
theorem knO_117 : knO Try.prog 117 = true := by kernel_rfl
theorem agO_127 : aggO Try.prog 127 = some false := by kernel_rfl
theorem szO_127 : szO Try.prog 127 = some 1 := by kernel_rfl
theorem zrX_127 : zrX Try.prog 127 = some [.sl 0 0 0 (some 0) 0] := by kernel_rfl
theorem zrO_127 : zrO Try.prog 127 = some [.sl 0 0 0 (some 0) 0] := by kernel_rfl
theorem elX_127 : elX Try.prog 127 = some (23, 1, 24) := by kernel_rfl
theorem elO_127 : elO Try.prog 127 = some 23 := by kernel_rfl
theorem slO_127 : slO Try.prog 127 = some (some 1) := by kernel_rfl
theorem u8O_127 : u8O Try.prog 127 = false := by kernel_rfl
theorem knO_127 : knO Try.prog 127 = true := by kernel_rfl
theorem agO_129 : aggO Try.prog 129 = some true := by kernel_rfl
theorem szO_129 : szO Try.prog 129 = some 4 := by kernel_rfl
theorem zrX_129 : zrX Try.prog 129 = some [.v (.pointer none), .v (.pointer none), .v (.pointer none), .v (.string ByteArray.empty)] := by kernel_rfl
theorem zrO_129 : zrO Try.prog 129 = some [.v (.pointer none), .v (.pointer none), .v (.pointer none), .v (.string ByteArray.empty)] := by kernel_rfl
theorem plO_129 : plO Try.prog 129 = some [(0, 1), (1, 1), (2, 1), (3, 1)] := by kernel_rfl
theorem fdO_129_0 : fdO Try.prog 129 0 = some (0, 1) := by kernel_rfl
theorem fdO_129_1 : fdO Try.prog 129 1 = some (1, 1) := by kernel_rfl
theorem fdO_129_2 : fdO Try.prog 129 2 = some (2, 1) := by kernel_rfl
theorem fdO_129_3 : fdO Try.prog 129 3 = some (3, 1) := by kernel_rfl
theorem knO_129 : knO Try.prog 129 = true := by kernel_rfl
theorem agO_130 : aggO Try.prog 130 = some true := by kernel_rfl
theorem szO_130 : szO Try.prog 130 = some 4 := by kernel_rfl
theorem zrX_130 : zrX Try.prog 130 = some [.v (.pointer none), .v (.pointer none), .v (.pointer none), .v (.string ByteArray.empty)] := by kernel_rfl
theorem zrO_130 : zrO Try.prog 130 = some [.v (.pointer none), .v (.pointer none), .v (.pointer none), .v (.string ByteArray.empty)] := by kernel_rfl
theorem plO_130 : plO Try.prog 130 = some [(0, 1), (1, 1), (2, 1), (3, 1)] := by kernel_rfl
theorem fdO_130_0 : fdO Try.prog 130 0 = some (0, 1) := by kernel_rfl
theorem fdO_130_1 : fdO Try.prog 130 1 = some (1, 1) := by kernel_rfl
theorem fdO_130_2 : fdO Try.prog 130 2 = some (2, 1) := by kernel_rfl
theorem fdO_130_3 : fdO Try.prog 130 3 = some (3, 1) := by kernel_rfl
theorem knO_130 : knO Try.prog 130 = true := by kernel_rfl
theorem agO_132 : aggO Try.prog 132 = some true := by kernel_rfl
theorem szO_132 : szO Try.prog 132 = some 0 := by kernel_rfl
theorem zrX_132 : zrX Try.prog 132 = some [] := by kernel_rfl
theorem zrO_132 : zrO Try.prog 132 = some [] := by kernel_rfl
theorem plO_132 : plO Try.prog 132 = some [(0, 0)] := by kernel_rfl
theorem knO_132 : knO Try.prog 132 = true := by kernel_rfl
theorem agO_133 : aggO Try.prog 133 = some true := by kernel_rfl
theorem szO_133 : szO Try.prog 133 = some 0 := by kernel_rfl
theorem zrX_133 : zrX Try.prog 133 = some [] := by kernel_rfl
theorem zrO_133 : zrO Try.prog 133 = some [] := by kernel_rfl
theorem plO_133 : plO Try.prog 133 = some [(0, 0)] := by kernel_rfl
theorem knO_133 : knO Try.prog 133 = true := by kernel_rfl
theorem agO_134 : aggO Try.prog 134 = some false := by kernel_rfl
theorem szO_134 : szO Try.prog 134 = some 1 := by kernel_rfl
theorem zrX_134 : zrX Try.prog 134 = some [.v (.int .u32 0)] := by kernel_rfl
theorem zrO_134 : zrO Try.prog 134 = some [.v (.int .u32 0)] := by kernel_rfl
theorem kdT_134 : kdT Try.prog 134 = some 1 := by kernel_rfl
theorem knO_134 : knO Try.prog 134 = true := by kernel_rfl
theorem inO_134 : inO Try.prog 134 = some .u32 := by kernel_rfl
theorem agO_135 : aggO Try.prog 135 = some false := by kernel_rfl
theorem szO_135 : szO Try.prog 135 = some 1 := by kernel_rfl
theorem zrX_135 : zrX Try.prog 135 = some [.v (.int .u8 0)] := by kernel_rfl
theorem zrO_135 : zrO Try.prog 135 = some [.v (.int .u8 0)] := by kernel_rfl
theorem kdT_135 : kdT Try.prog 135 = some 1 := by kernel_rfl
theorem knO_135 : knO Try.prog 135 = true := by kernel_rfl
theorem inO_135 : inO Try.prog 135 = some .u8 := by kernel_rfl
theorem agO_136 : aggO Try.prog 136 = some false := by kernel_rfl
theorem szO_136 : szO Try.prog 136 = some 1 := by kernel_rfl
theorem zrX_136 : zrX Try.prog 136 = some [.v (.int .u8 0)] := by kernel_rfl
theorem zrO_136 : zrO Try.prog 136 = some [.v (.int .u8 0)] := by kernel_rfl
theorem kdT_136 : kdT Try.prog 136 = some 1 := by kernel_rfl
theorem knO_136 : knO Try.prog 136 = true := by kernel_rfl
theorem inO_136 : inO Try.prog 136 = some .u8 := by kernel_rfl
theorem agO_138 : aggO Try.prog 138 = some false := by kernel_rfl
theorem szO_138 : szO Try.prog 138 = some 1 := by kernel_rfl
theorem zrX_138 : zrX Try.prog 138 = some [.v (.pointer none)] := by kernel_rfl
theorem zrO_138 : zrO Try.prog 138 = some [.v (.pointer none)] := by kernel_rfl
theorem knO_138 : knO Try.prog 138 = true := by kernel_rfl
theorem agO_139 : aggO Try.prog 139 = some false := by kernel_rfl
theorem szO_139 : szO Try.prog 139 = some 1 := by kernel_rfl
theorem zrX_139 : zrX Try.prog 139 = some [.v (.int .i32 0)] := by kernel_rfl
theorem zrO_139 : zrO Try.prog 139 = some [.v (.int .i32 0)] := by kernel_rfl
theorem kdT_139 : kdT Try.prog 139 = some 1 := by kernel_rfl
theorem knO_139 : knO Try.prog 139 = true := by kernel_rfl
theorem inO_139 : inO Try.prog 139 = some .i32 := by kernel_rfl
theorem agO_140 : aggO Try.prog 140 = some false := by kernel_rfl
theorem szO_140 : szO Try.prog 140 = some 1 := by kernel_rfl
theorem zrX_140 : zrX Try.prog 140 = some [.v (.int .i32 0)] := by kernel_rfl
theorem zrO_140 : zrO Try.prog 140 = some [.v (.int .i32 0)] := by kernel_rfl
theorem kdT_140 : kdT Try.prog 140 = some 1 := by kernel_rfl
theorem knO_140 : knO Try.prog 140 = true := by kernel_rfl
theorem inO_140 : inO Try.prog 140 = some .i32 := by kernel_rfl
theorem agO_141 : aggO Try.prog 141 = some true := by kernel_rfl
theorem szO_141 : szO Try.prog 141 = some 11 := by kernel_rfl
theorem zrX_141 : zrX Try.prog 141 = some [.v (.int .u64 0), .v (.int .u64 0), .v (.int .u32 0), .v (.int .u8 0), .v (.int .u8 0), .v (.int .u8 0), .v (.int .u8 0), .v .nilFunc, .v (.pointer none), .v (.int .i32 0), .v (.int .i32 0)] := by kernel_rfl
theorem zrO_141 : zrO Try.prog 141 = some [.v (.int .u64 0), .v (.int .u64 0), .v (.int .u32 0), .v (.int .u8 0), .v (.int .u8 0), .v (.int .u8 0), .v (.int .u8 0), .v .nilFunc, .v (.pointer none), .v (.int .i32 0), .v (.int .i32 0)] := by kernel_rfl
theorem plO_141 : plO Try.prog 141 = some [(0, 1), (1, 1), (2, 1), (3, 1), (4, 1), (5, 1), (6, 1), (7, 1), (8, 1), (9, 1), (10, 1)] := by kernel_rfl
theorem fdO_141_0 : fdO Try.prog 141 0 = some (0, 1) := by kernel_rfl
theorem fdO_141_1 : fdO Try.prog 141 1 = some (1, 1) := by kernel_rfl
theorem fdO_141_2 : fdO Try.prog 141 2 = some (2, 1) := by kernel_rfl
theorem fdO_141_3 : fdO Try.prog 141 3 = some (3, 1) := by kernel_rfl
theorem fdO_141_4 : fdO Try.prog 141 4 = some (4, 1) := by kernel_rfl
theorem fdO_141_5 : fdO Try.prog 141 5 = some (5, 1) := by kernel_rfl
theorem fdO_141_6 : fdO Try.prog 141 6 = some (6, 1) := by kernel_rfl
theorem fdO_141_7 : fdO Try.prog 141 7 = some (7, 1) := by kernel_rfl
theorem fdO_141_8 : fdO Try.prog 141 8 = some (8, 1) := by kernel_rfl
theorem fdO_141_9 : fdO Try.prog 141 9 = some (9, 1) := by kernel_rfl
theorem fdO_141_10 : fdO Try.prog 141 10 = some (10, 1) := by kernel_rfl
theorem knO_141 : knO Try.prog 141 = true := by kernel_rfl
theorem agO_142 : aggO Try.prog 142 = some true := by kernel_rfl
theorem szO_142 : szO Try.prog 142 = some 11 := by kernel_rfl
theorem zrX_142 : zrX Try.prog 142 = some [.v (.int .u64 0), .v (.int .u64 0), .v (.int .u32 0), .v (.int .u8 0), .v (.int .u8 0), .v (.int .u8 0), .v (.int .u8 0), .v .nilFunc, .v (.pointer none), .v (.int .i32 0), .v (.int .i32 0)] := by kernel_rfl
theorem zrO_142 : zrO Try.prog 142 = some [.v (.int .u64 0), .v (.int .u64 0), .v (.int .u32 0), .v (.int .u8 0), .v (.int .u8 0), .v (.int .u8 0), .v (.int .u8 0), .v .nilFunc, .v (.pointer none), .v (.int .i32 0), .v (.int .i32 0)] := by kernel_rfl
theorem plO_142 : plO Try.prog 142 = some [(0, 1), (1, 1), (2, 1), (3, 1), (4, 1), (5, 1), (6, 1), (7, 1), (8, 1), (9, 1), (10, 1)] := by kernel_rfl
theorem fdO_142_0 : fdO Try.prog 142 0 = some (0, 1) := by kernel_rfl
theorem fdO_142_1 : fdO Try.prog 142 1 = some (1, 1) := by kernel_rfl
theorem fdO_142_2 : fdO Try.prog 142 2 = some (2, 1) := by kernel_rfl
theorem fdO_142_3 : fdO Try.prog 142 3 = some (3, 1) := by kernel_rfl
theorem fdO_142_4 : fdO Try.prog 142 4 = some (4, 1) := by kernel_rfl
theorem fdO_142_5 : fdO Try.prog 142 5 = some (5, 1) := by kernel_rfl
theorem fdO_142_6 : fdO Try.prog 142 6 = some (6, 1) := by kernel_rfl
theorem fdO_142_7 : fdO Try.prog 142 7 = some (7, 1) := by kernel_rfl
theorem fdO_142_8 : fdO Try.prog 142 8 = some (8, 1) := by kernel_rfl
theorem fdO_142_9 : fdO Try.prog 142 9 = some (9, 1) := by kernel_rfl
theorem fdO_142_10 : fdO Try.prog 142 10 = some (10, 1) := by kernel_rfl
theorem knO_142 : knO Try.prog 142 = true := by kernel_rfl
theorem ent_3 : Ent Try.prog 3 := ent_of Try.func3 (by kernel_rfl) rfl
theorem ent_4 : Ent Try.prog 4 := ent_of Try.func4 (by kernel_rfl) rfl
theorem ent_5 : Ent Try.prog 5 := ent_of Try.func5 (by kernel_rfl) rfl
theorem ent_6 : Ent Try.prog 6 := ent_of Try.func6 (by kernel_rfl) rfl
theorem ent_7 : Ent Try.prog 7 := ent_of Try.func7 (by kernel_rfl) rfl
theorem ent_8 : Ent Try.prog 8 := ent_of Try.func8 (by kernel_rfl) rfl
theorem ent_9 : Ent Try.prog 9 := ent_of Try.func9 (by kernel_rfl) rfl
theorem ent_10 : Ent Try.prog 10 := ent_of Try.func10 (by kernel_rfl) rfl
theorem ent_11 : Ent Try.prog 11 := ent_of Try.func11 (by kernel_rfl) rfl
theorem ent_12 : Ent Try.prog 12 := ent_of Try.func12 (by kernel_rfl) rfl
theorem ent_13 : Ent Try.prog 13 := ent_of Try.func13 (by kernel_rfl) rfl
theorem ent_14 : Ent Try.prog 14 := ent_of Try.func14 (by kernel_rfl) rfl
theorem ent_15 : Ent Try.prog 15 := ent_of Try.func15 (by kernel_rfl) rfl
theorem ent_16 : Ent Try.prog 16 := ent_of Try.func16 (by kernel_rfl) rfl
theorem ent_17 : Ent Try.prog 17 := ent_of Try.func17 (by kernel_rfl) rfl
theorem ent_18 : Ent Try.prog 18 := ent_of Try.func18 (by kernel_rfl) rfl
theorem ent_19 : Ent Try.prog 19 := ent_of Try.func19 (by kernel_rfl) rfl
theorem ent_20 : Ent Try.prog 20 := ent_of Try.func20 (by kernel_rfl) rfl
theorem ent_21 : Ent Try.prog 21 := ent_of Try.func21 (by kernel_rfl) rfl
theorem ent_22 : Ent Try.prog 22 := ent_of Try.func22 (by kernel_rfl) rfl
theorem ent_23 : Ent Try.prog 23 := ent_of Try.func23 (by kernel_rfl) rfl
theorem ent_24 : Ent Try.prog 24 := ent_of Try.func24 (by kernel_rfl) rfl
theorem ent_25 : Ent Try.prog 25 := ent_of Try.func25 (by kernel_rfl) rfl
theorem ent_26 : Ent Try.prog 26 := ent_of Try.func26 (by kernel_rfl) rfl
theorem ent_27 : Ent Try.prog 27 := ent_of Try.func27 (by kernel_rfl) rfl
theorem ent_28 : Ent Try.prog 28 := ent_of Try.func28 (by kernel_rfl) rfl
theorem ent_29 : Ent Try.prog 29 := ent_of Try.func29 (by kernel_rfl) rfl
theorem ent_30 : Ent Try.prog 30 := ent_of Try.func30 (by kernel_rfl) rfl
theorem ent_31 : Ent Try.prog 31 := ent_of Try.func31 (by kernel_rfl) rfl
theorem ent_32 : Ent Try.prog 32 := ent_of Try.func32 (by kernel_rfl) rfl
theorem ent_33 : Ent Try.prog 33 := ent_of Try.func33 (by kernel_rfl) rfl
theorem ent_34 : Ent Try.prog 34 := ent_of Try.func34 (by kernel_rfl) rfl
theorem ent_35 : Ent Try.prog 35 := ent_of Try.func35 (by kernel_rfl) rfl
theorem ent_36 : Ent Try.prog 36 := ent_of Try.func36 (by kernel_rfl) rfl
theorem ent_37 : Ent Try.prog 37 := ent_of Try.func37 (by kernel_rfl) rfl
theorem ent_38 : Ent Try.prog 38 := ent_of Try.func38 (by kernel_rfl) rfl
theorem ent_39 : Ent Try.prog 39 := ent_of Try.func39 (by kernel_rfl) rfl
theorem ent_40 : Ent Try.prog 40 := ent_of Try.func40 (by kernel_rfl) rfl
theorem ent_41 : Ent Try.prog 41 := ent_of Try.func41 (by kernel_rfl) rfl
theorem ent_42 : Ent Try.prog 42 := ent_of Try.func42 (by kernel_rfl) rfl
theorem ent_43 : Ent Try.prog 43 := ent_of Try.func43 (by kernel_rfl) rfl
theorem ent_44 : Ent Try.prog 44 := ent_of Try.func44 (by kernel_rfl) rfl
theorem ent_45 : Ent Try.prog 45 := ent_of Try.func45 (by kernel_rfl) rfl
theorem ent_46 : Ent Try.prog 46 := ent_of Try.func46 (by kernel_rfl) rfl
theorem ent_47 : Ent Try.prog 47 := ent_of Try.func47 (by kernel_rfl) rfl
theorem ent_48 : Ent Try.prog 48 := ent_of Try.func48 (by kernel_rfl) rfl
theorem ent_49 : Ent Try.prog 49 := ent_of Try.func49 (by kernel_rfl) rfl
theorem ent_50 : Ent Try.prog 50 := ent_of Try.func50 (by kernel_rfl) rfl
theorem ent_51 : Ent Try.prog 51 := ent_of Try.func51 (by kernel_rfl) rfl
theorem ent_52 : Ent Try.prog 52 := ent_of Try.func52 (by kernel_rfl) rfl
theorem ent_53 : Ent Try.prog 53 := ent_of Try.func53 (by kernel_rfl) rfl
theorem ent_54 : Ent Try.prog 54 := ent_of Try.func54 (by kernel_rfl) rfl
theorem ent_55 : Ent Try.prog 55 := ent_of Try.func55 (by kernel_rfl) rfl
theorem ent_56 : Ent Try.prog 56 := ent_of Try.func56 (by kernel_rfl) rfl
theorem ent_57 : Ent Try.prog 57 := ent_of Try.func57 (by kernel_rfl) rfl
theorem ent_58 : Ent Try.prog 58 := ent_of Try.func58 (by kernel_rfl) rfl
theorem ent_59 : Ent Try.prog 59 := ent_of Try.func59 (by kernel_rfl) rfl
theorem ent_60 : Ent Try.prog 60 := ent_of Try.func60 (by kernel_rfl) rfl
theorem ent_61 : Ent Try.prog 61 := ent_of Try.func61 (by kernel_rfl) rfl
theorem ent_62 : Ent Try.prog 62 := ent_of Try.func62 (by kernel_rfl) rfl
theorem ent_63 : Ent Try.prog 63 := ent_of Try.func63 (by kernel_rfl) rfl
theorem ent_64 : Ent Try.prog 64 := ent_of Try.func64 (by kernel_rfl) rfl
theorem ent_65 : Ent Try.prog 65 := ent_of Try.func65 (by kernel_rfl) rfl
theorem ent_66 : Ent Try.prog 66 := ent_of Try.func66 (by kernel_rfl) rfl
theorem ent_67 : Ent Try.prog 67 := ent_of Try.func67 (by kernel_rfl) rfl
theorem ent_68 : Ent Try.prog 68 := ent_of Try.func68 (by kernel_rfl) rfl
theorem ent_69 : Ent Try.prog 69 := ent_of Try.func69 (by kernel_rfl) rfl
theorem ent_70 : Ent Try.prog 70 := ent_of Try.func70 (by kernel_rfl) rfl
theorem ent_71 : Ent Try.prog 71 := ent_of Try.func71 (by kernel_rfl) rfl
theorem ent_72 : Ent Try.prog 72 := ent_of Try.func72 (by kernel_rfl) rfl
theorem ent_73 : Ent Try.prog 73 := ent_of Try.func73 (by kernel_rfl) rfl
theorem ent_74 : Ent Try.prog 74 := ent_of Try.func74 (by kernel_rfl) rfl
theorem ent_75 : Ent Try.prog 75 := ent_of Try.func75 (by kernel_rfl) rfl
theorem ent_76 : Ent Try.prog 76 := ent_of Try.func76 (by kernel_rfl) rfl
theorem ent_77 : Ent Try.prog 77 := ent_of Try.func77 (by kernel_rfl) rfl
theorem ent_78 : Ent Try.prog 78 := ent_of Try.func78 (by kernel_rfl) rfl
theorem ent_79 : Ent Try.prog 79 := ent_of Try.func79 (by kernel_rfl) rfl
theorem ent_80 : Ent Try.prog 80 := ent_of Try.func80 (by kernel_rfl) rfl
theorem ent_81 : Ent Try.prog 81 := ent_of Try.func81 (by kernel_rfl) rfl
theorem ent_82 : Ent Try.prog 82 := ent_of Try.func82 (by kernel_rfl) rfl
theorem ent_83 : Ent Try.prog 83 := ent_of Try.func83 (by kernel_rfl) rfl
theorem ent_84 : Ent Try.prog 84 := ent_of Try.func84 (by kernel_rfl) rfl
theorem ent_85 : Ent Try.prog 85 := ent_of Try.func85 (by kernel_rfl) rfl
theorem ent_86 : Ent Try.prog 86 := ent_of Try.func86 (by kernel_rfl) rfl
theorem ent_87 : Ent Try.prog 87 := ent_of Try.func87 (by kernel_rfl) rfl
theorem ent_88 : Ent Try.prog 88 := ent_of Try.func88 (by kernel_rfl) rfl
theorem ent_89 : Ent Try.prog 89 := ent_of Try.func89 (by kernel_rfl) rfl
theorem ent_90 : Ent Try.prog 90 := ent_of Try.func90 (by kernel_rfl) rfl
theorem ent_91 : Ent Try.prog 91 := ent_of Try.func91 (by kernel_rfl) rfl
theorem ent_92 : Ent Try.prog 92 := ent_of Try.func92 (by kernel_rfl) rfl
theorem ent_93 : Ent Try.prog 93 := ent_of Try.func93 (by kernel_rfl) rfl
theorem ent_94 : Ent Try.prog 94 := ent_of Try.func94 (by kernel_rfl) rfl
theorem ent_95 : Ent Try.prog 95 := ent_of Try.func95 (by kernel_rfl) rfl
theorem ent_96 : Ent Try.prog 96 := ent_of Try.func96 (by kernel_rfl) rfl
theorem ent_97 : Ent Try.prog 97 := ent_of Try.func97 (by kernel_rfl) rfl
theorem ent_98 : Ent Try.prog 98 := ent_of Try.func98 (by kernel_rfl) rfl
theorem ent_99 : Ent Try.prog 99 := ent_of Try.func99 (by kernel_rfl) rfl
theorem ent_100 : Ent Try.prog 100 := ent_of Try.func100 (by kernel_rfl) rfl
theorem ent_101 : Ent Try.prog 101 := ent_of Try.func101 (by kernel_rfl) rfl
theorem ent_102 : Ent Try.prog 102 := ent_of Try.func102 (by kernel_rfl) rfl
theorem ent_103 : Ent Try.prog 103 := ent_of Try.func103 (by kernel_rfl) rfl
theorem ent_104 : Ent Try.prog 104 := ent_of Try.func104 (by kernel_rfl) rfl
theorem ent_105 : Ent Try.prog 105 := ent_of Try.func105 (by kernel_rfl) rfl
theorem ent_106 : Ent Try.prog 106 := ent_of Try.func106 (by kernel_rfl) rfl
theorem ent_107 : Ent Try.prog 107 := ent_of Try.func107 (by kernel_rfl) rfl
theorem ent_108 : Ent Try.prog 108 := ent_of Try.func108 (by kernel_rfl) rfl
theorem ent_109 : Ent Try.prog 109 := ent_of Try.func109 (by kernel_rfl) rfl
theorem ent_110 : Ent Try.prog 110 := ent_of Try.func110 (by kernel_rfl) rfl
theorem ent_111 : Ent Try.prog 111 := ent_of Try.func111 (by kernel_rfl) rfl
theorem ent_112 : Ent Try.prog 112 := ent_of Try.func112 (by kernel_rfl) rfl
theorem ent_113 : Ent Try.prog 113 := ent_of Try.func113 (by kernel_rfl) rfl
theorem ent_114 : Ent Try.prog 114 := ent_of Try.func114 (by kernel_rfl) rfl
theorem ent_115 : Ent Try.prog 115 := ent_of Try.func115 (by kernel_rfl) rfl
theorem ent_116 : Ent Try.prog 116 := ent_of Try.func116 (by kernel_rfl) rfl
theorem ent_117 : Ent Try.prog 117 := ent_of Try.func117 (by kernel_rfl) rfl
theorem mixd : Try.prog.follows .mixedOrders = true := by kernel_rfl
attribute [simp] argT aOps_nil aOps_cons aStep_yes aStep_no aDo_call aDo_op aCont_some aGo_fn gdA gdB gdC nth callOf fOp keepS ev get_hit get_miss get_nil ofV put fBinX fBin eqv eqvs fPick fLoad fStore fFieldA fIdxA fIdx fSliceX fSlice num fLenX fCall fCap fNew cellsA fExt fUn fNot fConvX fConv fNil fBuild fillA fBuildS fElems fMake fApp fAppZ fMin fMax oneA Value.oneCell' upd_eq upd_ne upd_upd del_eq del_ne w64 resL resV resO ovr_none ovr_one ovr_upd u8s dOps_nil dOps_cons dStep_yes dStep_no dDo_call dDo_op dCont_some dGo_fn opR opW rdN wrN nmAs nmA List.getElem?_cons_zero List.getElem?_cons_succ
attribute [simp] agO_2 szO_2 zrX_2 zrO_2 kdT_2 knO_2 inO_2 agO_3 szO_3 zrX_3 zrO_3 kdT_3 knO_3 inO_3 agO_4 szO_4 zrX_4 zrO_4 kdT_4 knO_4 agO_5 szO_5 zrX_5 zrO_5 kdT_5 knO_5 inO_5 agO_6 szO_6 zrX_6 zrO_6 kdT_6 knO_6 inO_6 agO_7 szO_7 zrX_7 zrO_7 plO_7 fdO_7_0 fdO_7_1 fdO_7_2 fdO_7_3 knO_7 agO_8 szO_8 zrX_8 zrO_8 plO_8 fdO_8_0 fdO_8_1 fdO_8_2 fdO_8_3 knO_8 agO_9 szO_9 zrX_9 zrO_9 slO_9 stO_9 kdT_9 knO_9 agO_10 szO_10 zrX_10 zrO_10 slO_10 stO_10 kdT_10 knO_10 agO_11 szO_11 zrX_11 zrO_11 slO_11 stO_11 kdT_11 knO_11 agO_12 szO_12 zrX_12 zrO_12 kdT_12 knO_12 inO_12 agO_13 szO_13 zrX_13 zrO_13 plO_13 fdO_13_0 fdO_13_1 knO_13 agO_14 szO_14 zrX_14 zrO_14 plO_14 fdO_14_0 fdO_14_1 knO_14 agO_15 szO_15 zrX_15 zrO_15 knO_15 agO_16 szO_16 zrX_16 zrO_16 knO_16 agO_17 szO_17 zrX_17 zrO_17 knO_17 agO_18 szO_18 zrX_18 zrO_18 plO_18 fdO_18_0 knO_18 agO_19 szO_19 zrX_19 zrO_19 plO_19 fdO_19_0 knO_19 agO_21 szO_21 zrX_21 zrO_21 kdT_21 knO_21 inO_21 agO_22 szO_22 zrX_22 zrO_22 elX_22 elO_22 slO_22 u8O_22 knO_22 agO_23 szO_23 zrX_23 zrO_23 elX_23 elO_23 slO_23 u8O_23 knO_23 agO_24 szO_24 zrX_24 zrO_24 plO_24 fdO_24_0 knO_24 agO_25 szO_25 zrX_25 zrO_25 plO_25 fdO_25_0 knO_25 agO_33 szO_33 zrX_33 zrO_33 plO_33 fdO_33_0 fdO_33_1 knO_33 agO_34 szO_34 zrX_34 zrO_34 plO_34 fdO_34_0 fdO_34_1 kdO_34 knO_34 agO_36 szO_36 zrX_36 zrO_36 elX_36 elO_36 slO_36 u8O_36 knO_36 agO_41 szO_41 zrX_41 zrO_41 elX_41 elO_41 slO_41 u8O_41 knO_41 agO_42 szO_42 zrX_42 zrO_42 plO_42 fdO_42_0 knO_42 agO_43 szO_43 zrX_43 zrO_43 plO_43 fdO_43_0 knO_43 agO_51 szO_51 zrX_51 zrO_51 elX_51 elO_51 slO_51 u8O_51 knO_51 agO_61 szO_61 zrX_61 zrO_61 plO_61 fdO_61_0 fdO_61_1 knO_61 agO_62 szO_62 zrX_62 zrO_62 plO_62 fdO_62_0 fdO_62_1 knO_62 agO_69 szO_69 zrX_69 zrO_69 knO_69 agO_76 szO_76 zrX_76 zrO_76 plO_76 fdO_76_0 fdO_76_1 fdO_76_2 fdO_76_3 knO_76 agO_77 szO_77 zrX_77 zrO_77 plO_77 fdO_77_0 fdO_77_1 fdO_77_2 fdO_77_3 kdO_77 knO_77 agO_93 szO_93 zrX_93 zrO_93 knO_93 agO_97 szO_97 zrX_97 zrO_97 elX_97 elO_97 slO_97 u8O_97 knO_97 agO_107 szO_107 zrX_107 zrO_107 plO_107 fdO_107_0 fdO_107_1 knO_107 agO_108 szO_108 zrX_108 zrO_108 plO_108 fdO_108_0 fdO_108_1 knO_108 agO_110 szO_110 zrX_110 zrO_110 elX_110 elO_110 slO_110 u8O_110 knO_110 agO_117 szO_117 zrX_117 zrO_117 plO_117 fdO_117_0 fdO_117_1 kdO_117 knO_117 agO_127 szO_127 zrX_127 zrO_127 elX_127 elO_127 slO_127 u8O_127 knO_127 agO_129 szO_129 zrX_129 zrO_129 plO_129 fdO_129_0 fdO_129_1 fdO_129_2 fdO_129_3 knO_129 agO_130 szO_130 zrX_130 zrO_130 plO_130 fdO_130_0 fdO_130_1 fdO_130_2 fdO_130_3 knO_130 agO_132 szO_132 zrX_132 zrO_132 plO_132 knO_132 agO_133 szO_133 zrX_133 zrO_133 plO_133 knO_133 agO_134 szO_134 zrX_134 zrO_134 kdT_134 knO_134 inO_134 agO_135 szO_135 zrX_135 zrO_135 kdT_135 knO_135 inO_135 agO_136 szO_136 zrX_136 zrO_136 kdT_136 knO_136 inO_136 agO_138 szO_138 zrX_138 zrO_138 knO_138 agO_139 szO_139 zrX_139 zrO_139 kdT_139 knO_139 inO_139 agO_140 szO_140 zrX_140 zrO_140 kdT_140 knO_140 inO_140 agO_141 szO_141 zrX_141 zrO_141 plO_141 fdO_141_0 fdO_141_1 fdO_141_2 fdO_141_3 fdO_141_4 fdO_141_5 fdO_141_6 fdO_141_7 fdO_141_8 fdO_141_9 fdO_141_10 knO_141 agO_142 szO_142 zrX_142 zrO_142 plO_142 fdO_142_0 fdO_142_1 fdO_142_2 fdO_142_3 fdO_142_4 fdO_142_5 fdO_142_6 fdO_142_7 fdO_142_8 fdO_142_9 fdO_142_10 knO_142
end Go.Proofs.Ytgaiemhbllbaiaa
