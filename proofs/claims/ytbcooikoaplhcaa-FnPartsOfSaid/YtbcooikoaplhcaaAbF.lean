/- The closed facts on the program's tables of types. No condition. MADE BY A PROGRAM (facts.py). -/
import Derived.Test.YtbcooikoaplhcaaLB
import Derived.Test.YtbcooikoaplhcaaRows
set_option linter.unusedSimpArgs false
set_option linter.unusedVariables false
namespace Go.Proofs.Ytbcooikoaplhcaa
open Go Go.RowKit
theorem agO_2 : aggO Try.prog 2 = some false := by kernel_rfl
theorem szO_2 : szO Try.prog 2 = some 1 := by kernel_rfl
theorem zrX_2 : zrX Try.prog 2 = some [.v (.int .i64 0)] := by kernel_rfl
theorem zrO_2 : zrO Try.prog 2 = some [.v (.int .i64 0)] := by kernel_rfl
theorem kdT_2 : kdT Try.prog 2 = some 1 := by kernel_rfl
theorem knO_2 : knO Try.prog 2 = true := by kernel_rfl
theorem inO_2 : inO Try.prog 2 = some .i64 := by kernel_rfl
theorem agO_3 : aggO Try.prog 3 = some false := by kernel_rfl
theorem szO_3 : szO Try.prog 3 = some 1 := by kernel_rfl
theorem zrX_3 : zrX Try.prog 3 = some [.v (.int .i64 0)] := by kernel_rfl
theorem zrO_3 : zrO Try.prog 3 = some [.v (.int .i64 0)] := by kernel_rfl
theorem kdT_3 : kdT Try.prog 3 = some 1 := by kernel_rfl
theorem knO_3 : knO Try.prog 3 = true := by kernel_rfl
theorem inO_3 : inO Try.prog 3 = some .i64 := by kernel_rfl
theorem agO_4 : aggO Try.prog 4 = some false := by kernel_rfl
theorem szO_4 : szO Try.prog 4 = some 1 := by kernel_rfl
theorem zrX_4 : zrX Try.prog 4 = some [.v (.bool false)] := by kernel_rfl
theorem zrO_4 : zrO Try.prog 4 = some [.v (.bool false)] := by kernel_rfl
theorem kdT_4 : kdT Try.prog 4 = some 0 := by kernel_rfl
theorem knO_4 : knO Try.prog 4 = true := by kernel_rfl
theorem agO_5 : aggO Try.prog 5 = some false := by kernel_rfl
theorem szO_5 : szO Try.prog 5 = some 1 := by kernel_rfl
theorem zrX_5 : zrX Try.prog 5 = some [.v (.int .u8 0)] := by kernel_rfl
theorem zrO_5 : zrO Try.prog 5 = some [.v (.int .u8 0)] := by kernel_rfl
theorem kdT_5 : kdT Try.prog 5 = some 1 := by kernel_rfl
theorem knO_5 : knO Try.prog 5 = true := by kernel_rfl
theorem inO_5 : inO Try.prog 5 = some .u8 := by kernel_rfl
theorem agO_6 : aggO Try.prog 6 = some false := by kernel_rfl
theorem szO_6 : szO Try.prog 6 = some 1 := by kernel_rfl
theorem zrX_6 : zrX Try.prog 6 = some [.v (.int .u8 0)] := by kernel_rfl
theorem zrO_6 : zrO Try.prog 6 = some [.v (.int .u8 0)] := by kernel_rfl
theorem kdT_6 : kdT Try.prog 6 = some 1 := by kernel_rfl
theorem knO_6 : knO Try.prog 6 = true := by kernel_rfl
theorem inO_6 : inO Try.prog 6 = some .u8 := by kernel_rfl
theorem agO_7 : aggO Try.prog 7 = some true := by kernel_rfl
theorem szO_7 : szO Try.prog 7 = some 4 := by kernel_rfl
theorem zrX_7 : zrX Try.prog 7 = some [.v (.int .i64 0), .v (.int .i64 0), .v (.bool false), .v (.int .u8 0)] := by kernel_rfl
theorem zrO_7 : zrO Try.prog 7 = some [.v (.int .i64 0), .v (.int .i64 0), .v (.bool false), .v (.int .u8 0)] := by kernel_rfl
theorem plO_7 : plO Try.prog 7 = some [(0, 1), (1, 1), (2, 1), (3, 1)] := by kernel_rfl
theorem fdO_7_0 : fdO Try.prog 7 0 = some (0, 1) := by kernel_rfl
theorem fdO_7_1 : fdO Try.prog 7 1 = some (1, 1) := by kernel_rfl
theorem fdO_7_2 : fdO Try.prog 7 2 = some (2, 1) := by kernel_rfl
theorem fdO_7_3 : fdO Try.prog 7 3 = some (3, 1) := by kernel_rfl
theorem knO_7 : knO Try.prog 7 = true := by kernel_rfl
theorem agO_8 : aggO Try.prog 8 = some true := by kernel_rfl
theorem szO_8 : szO Try.prog 8 = some 4 := by kernel_rfl
theorem zrX_8 : zrX Try.prog 8 = some [.v (.int .i64 0), .v (.int .i64 0), .v (.bool false), .v (.int .u8 0)] := by kernel_rfl
theorem zrO_8 : zrO Try.prog 8 = some [.v (.int .i64 0), .v (.int .i64 0), .v (.bool false), .v (.int .u8 0)] := by kernel_rfl
theorem plO_8 : plO Try.prog 8 = some [(0, 1), (1, 1), (2, 1), (3, 1)] := by kernel_rfl
theorem fdO_8_0 : fdO Try.prog 8 0 = some (0, 1) := by kernel_rfl
theorem fdO_8_1 : fdO Try.prog 8 1 = some (1, 1) := by kernel_rfl
theorem fdO_8_2 : fdO Try.prog 8 2 = some (2, 1) := by kernel_rfl
theorem fdO_8_3 : fdO Try.prog 8 3 = some (3, 1) := by kernel_rfl
theorem knO_8 : knO Try.prog 8 = true := by kernel_rfl
theorem agO_9 : aggO Try.prog 9 = some false := by kernel_rfl
theorem szO_9 : szO Try.prog 9 = some 1 := by kernel_rfl
theorem zrX_9 : zrX Try.prog 9 = some [.v (.string ByteArray.empty)] := by kernel_rfl
theorem zrO_9 : zrO Try.prog 9 = some [.v (.string ByteArray.empty)] := by kernel_rfl
theorem slO_9 : slO Try.prog 9 = some none := by kernel_rfl
theorem stO_9 : stO Try.prog 9 = true := by kernel_rfl
theorem kdT_9 : kdT Try.prog 9 = some 2 := by kernel_rfl
theorem knO_9 : knO Try.prog 9 = true := by kernel_rfl
theorem agO_10 : aggO Try.prog 10 = some false := by kernel_rfl
theorem szO_10 : szO Try.prog 10 = some 1 := by kernel_rfl
theorem zrX_10 : zrX Try.prog 10 = some [.v (.string ByteArray.empty)] := by kernel_rfl
theorem zrO_10 : zrO Try.prog 10 = some [.v (.string ByteArray.empty)] := by kernel_rfl
theorem slO_10 : slO Try.prog 10 = some none := by kernel_rfl
theorem stO_10 : stO Try.prog 10 = true := by kernel_rfl
theorem kdT_10 : kdT Try.prog 10 = some 2 := by kernel_rfl
theorem knO_10 : knO Try.prog 10 = true := by kernel_rfl
theorem agO_11 : aggO Try.prog 11 = some false := by kernel_rfl
theorem szO_11 : szO Try.prog 11 = some 1 := by kernel_rfl
theorem zrX_11 : zrX Try.prog 11 = some [.v (.string ByteArray.empty)] := by kernel_rfl
theorem zrO_11 : zrO Try.prog 11 = some [.v (.string ByteArray.empty)] := by kernel_rfl
theorem slO_11 : slO Try.prog 11 = some none := by kernel_rfl
theorem stO_11 : stO Try.prog 11 = true := by kernel_rfl
theorem kdT_11 : kdT Try.prog 11 = some 2 := by kernel_rfl
theorem knO_11 : knO Try.prog 11 = true := by kernel_rfl
theorem agO_12 : aggO Try.prog 12 = some false := by kernel_rfl
theorem szO_12 : szO Try.prog 12 = some 1 := by kernel_rfl
theorem zrX_12 : zrX Try.prog 12 = some [.v (.int .u64 0)] := by kernel_rfl
theorem zrO_12 : zrO Try.prog 12 = some [.v (.int .u64 0)] := by kernel_rfl
theorem kdT_12 : kdT Try.prog 12 = some 1 := by kernel_rfl
theorem knO_12 : knO Try.prog 12 = true := by kernel_rfl
theorem inO_12 : inO Try.prog 12 = some .u64 := by kernel_rfl
theorem agO_13 : aggO Try.prog 13 = some true := by kernel_rfl
theorem szO_13 : szO Try.prog 13 = some 2 := by kernel_rfl
theorem zrX_13 : zrX Try.prog 13 = some [.v (.string ByteArray.empty), .v (.int .u64 0)] := by kernel_rfl
theorem zrO_13 : zrO Try.prog 13 = some [.v (.string ByteArray.empty), .v (.int .u64 0)] := by kernel_rfl
theorem plO_13 : plO Try.prog 13 = some [(0, 1), (1, 1)] := by kernel_rfl
theorem fdO_13_0 : fdO Try.prog 13 0 = some (0, 1) := by kernel_rfl
theorem fdO_13_1 : fdO Try.prog 13 1 = some (1, 1) := by kernel_rfl
theorem knO_13 : knO Try.prog 13 = true := by kernel_rfl
theorem agO_14 : aggO Try.prog 14 = some true := by kernel_rfl
theorem szO_14 : szO Try.prog 14 = some 2 := by kernel_rfl
theorem zrX_14 : zrX Try.prog 14 = some [.v (.string ByteArray.empty), .v (.int .u64 0)] := by kernel_rfl
theorem zrO_14 : zrO Try.prog 14 = some [.v (.string ByteArray.empty), .v (.int .u64 0)] := by kernel_rfl
theorem plO_14 : plO Try.prog 14 = some [(0, 1), (1, 1)] := by kernel_rfl
theorem fdO_14_0 : fdO Try.prog 14 0 = some (0, 1) := by kernel_rfl
theorem fdO_14_1 : fdO Try.prog 14 1 = some (1, 1) := by kernel_rfl
theorem knO_14 : knO Try.prog 14 = true := by kernel_rfl
theorem agO_15 : aggO Try.prog 15 = some false := by kernel_rfl
theorem szO_15 : szO Try.prog 15 = some 1 := by kernel_rfl
theorem zrX_15 : zrX Try.prog 15 = some [.v (.pointer none)] := by kernel_rfl
theorem zrO_15 : zrO Try.prog 15 = some [.v (.pointer none)] := by kernel_rfl
theorem knO_15 : knO Try.prog 15 = true := by kernel_rfl
theorem agO_16 : aggO Try.prog 16 = some false := by kernel_rfl
theorem szO_16 : szO Try.prog 16 = some 1 := by kernel_rfl
theorem zrX_16 : zrX Try.prog 16 = some [.v (.pointer none)] := by kernel_rfl
theorem zrO_16 : zrO Try.prog 16 = some [.v (.pointer none)] := by kernel_rfl
theorem knO_16 : knO Try.prog 16 = true := by kernel_rfl
theorem agO_17 : aggO Try.prog 17 = some false := by kernel_rfl
theorem szO_17 : szO Try.prog 17 = some 1 := by kernel_rfl
theorem zrX_17 : zrX Try.prog 17 = some [.v (.pointer none)] := by kernel_rfl
theorem zrO_17 : zrO Try.prog 17 = some [.v (.pointer none)] := by kernel_rfl
theorem knO_17 : knO Try.prog 17 = true := by kernel_rfl
theorem agO_18 : aggO Try.prog 18 = some true := by kernel_rfl
theorem szO_18 : szO Try.prog 18 = some 1 := by kernel_rfl
theorem zrX_18 : zrX Try.prog 18 = some [.v (.pointer none)] := by kernel_rfl
theorem zrO_18 : zrO Try.prog 18 = some [.v (.pointer none)] := by kernel_rfl
theorem plO_18 : plO Try.prog 18 = some [(0, 1)] := by kernel_rfl
theorem fdO_18_0 : fdO Try.prog 18 0 = some (0, 1) := by kernel_rfl
theorem knO_18 : knO Try.prog 18 = true := by kernel_rfl
theorem agO_19 : aggO Try.prog 19 = some true := by kernel_rfl
theorem szO_19 : szO Try.prog 19 = some 1 := by kernel_rfl
theorem zrX_19 : zrX Try.prog 19 = some [.v (.pointer none)] := by kernel_rfl
theorem zrO_19 : zrO Try.prog 19 = some [.v (.pointer none)] := by kernel_rfl
theorem plO_19 : plO Try.prog 19 = some [(0, 1)] := by kernel_rfl
theorem fdO_19_0 : fdO Try.prog 19 0 = some (0, 1) := by kernel_rfl
theorem knO_19 : knO Try.prog 19 = true := by kernel_rfl
theorem agO_21 : aggO Try.prog 21 = some false := by kernel_rfl
theorem szO_21 : szO Try.prog 21 = some 1 := by kernel_rfl
theorem zrX_21 : zrX Try.prog 21 = some [.v (.int .i32 0)] := by kernel_rfl
theorem zrO_21 : zrO Try.prog 21 = some [.v (.int .i32 0)] := by kernel_rfl
theorem kdT_21 : kdT Try.prog 21 = some 1 := by kernel_rfl
theorem knO_21 : knO Try.prog 21 = true := by kernel_rfl
theorem inO_21 : inO Try.prog 21 = some .i32 := by kernel_rfl
theorem agO_22 : aggO Try.prog 22 = some false := by kernel_rfl
theorem szO_22 : szO Try.prog 22 = some 1 := by kernel_rfl
theorem zrX_22 : zrX Try.prog 22 = some [.sl 0 0 0 (some 0) 0] := by kernel_rfl
theorem zrO_22 : zrO Try.prog 22 = some [.sl 0 0 0 (some 0) 0] := by kernel_rfl
theorem elX_22 : elX Try.prog 22 = some (5, 1, 1) := by kernel_rfl
theorem elO_22 : elO Try.prog 22 = some 5 := by kernel_rfl
theorem slO_22 : slO Try.prog 22 = some (some 1) := by kernel_rfl
theorem u8O_22 : u8O Try.prog 22 = true := by kernel_rfl
theorem knO_22 : knO Try.prog 22 = true := by kernel_rfl
theorem agO_23 : aggO Try.prog 23 = some false := by kernel_rfl
theorem szO_23 : szO Try.prog 23 = some 1 := by kernel_rfl
theorem zrX_23 : zrX Try.prog 23 = some [.sl 0 0 0 (some 0) 0] := by kernel_rfl
theorem zrO_23 : zrO Try.prog 23 = some [.sl 0 0 0 (some 0) 0] := by kernel_rfl
theorem elX_23 : elX Try.prog 23 = some (77, 2, 24) := by kernel_rfl
theorem elO_23 : elO Try.prog 23 = some 77 := by kernel_rfl
theorem slO_23 : slO Try.prog 23 = some (some 2) := by kernel_rfl
theorem u8O_23 : u8O Try.prog 23 = false := by kernel_rfl
theorem knO_23 : knO Try.prog 23 = true := by kernel_rfl
theorem agO_24 : aggO Try.prog 24 = some true := by kernel_rfl
theorem szO_24 : szO Try.prog 24 = some 2 := by kernel_rfl
theorem zrX_24 : zrX Try.prog 24 = some [.sl 0 0 0 (some 0) 0, .v (.int .i64 0)] := by kernel_rfl
theorem zrO_24 : zrO Try.prog 24 = some [.sl 0 0 0 (some 0) 0, .v (.int .i64 0)] := by kernel_rfl
theorem plO_24 : plO Try.prog 24 = some [(0, 1), (1, 1)] := by kernel_rfl
theorem fdO_24_0 : fdO Try.prog 24 0 = some (0, 1) := by kernel_rfl
theorem fdO_24_1 : fdO Try.prog 24 1 = some (1, 1) := by kernel_rfl
theorem knO_24 : knO Try.prog 24 = true := by kernel_rfl
theorem agO_25 : aggO Try.prog 25 = some true := by kernel_rfl
theorem szO_25 : szO Try.prog 25 = some 2 := by kernel_rfl
theorem zrX_25 : zrX Try.prog 25 = some [.sl 0 0 0 (some 0) 0, .v (.int .i64 0)] := by kernel_rfl
theorem zrO_25 : zrO Try.prog 25 = some [.sl 0 0 0 (some 0) 0, .v (.int .i64 0)] := by kernel_rfl
theorem plO_25 : plO Try.prog 25 = some [(0, 1), (1, 1)] := by kernel_rfl
theorem fdO_25_0 : fdO Try.prog 25 0 = some (0, 1) := by kernel_rfl
theorem fdO_25_1 : fdO Try.prog 25 1 = some (1, 1) := by kernel_rfl
theorem knO_25 : knO Try.prog 25 = true := by kernel_rfl
theorem agO_31 : aggO Try.prog 31 = some false := by kernel_rfl
theorem szO_31 : szO Try.prog 31 = some 1 := by kernel_rfl
theorem zrX_31 : zrX Try.prog 31 = some [.sl 0 0 0 (some 0) 0] := by kernel_rfl
theorem zrO_31 : zrO Try.prog 31 = some [.sl 0 0 0 (some 0) 0] := by kernel_rfl
theorem elX_31 : elX Try.prog 31 = some (91, 2, 24) := by kernel_rfl
theorem elO_31 : elO Try.prog 31 = some 91 := by kernel_rfl
theorem slO_31 : slO Try.prog 31 = some (some 2) := by kernel_rfl
theorem u8O_31 : u8O Try.prog 31 = false := by kernel_rfl
theorem knO_31 : knO Try.prog 31 = true := by kernel_rfl
theorem agO_32 : aggO Try.prog 32 = some true := by kernel_rfl
theorem szO_32 : szO Try.prog 32 = some 2 := by kernel_rfl
theorem zrX_32 : zrX Try.prog 32 = some [.sl 0 0 0 (some 0) 0, .v (.int .i64 0)] := by kernel_rfl
theorem zrO_32 : zrO Try.prog 32 = some [.sl 0 0 0 (some 0) 0, .v (.int .i64 0)] := by kernel_rfl
theorem plO_32 : plO Try.prog 32 = some [(0, 1), (1, 1)] := by kernel_rfl
theorem fdO_32_0 : fdO Try.prog 32 0 = some (0, 1) := by kernel_rfl
theorem fdO_32_1 : fdO Try.prog 32 1 = some (1, 1) := by kernel_rfl
theorem knO_32 : knO Try.prog 32 = true := by kernel_rfl
theorem agO_33 : aggO Try.prog 33 = some true := by kernel_rfl
theorem szO_33 : szO Try.prog 33 = some 2 := by kernel_rfl
theorem zrX_33 : zrX Try.prog 33 = some [.sl 0 0 0 (some 0) 0, .v (.int .i64 0)] := by kernel_rfl
theorem zrO_33 : zrO Try.prog 33 = some [.sl 0 0 0 (some 0) 0, .v (.int .i64 0)] := by kernel_rfl
theorem plO_33 : plO Try.prog 33 = some [(0, 1), (1, 1)] := by kernel_rfl
theorem fdO_33_0 : fdO Try.prog 33 0 = some (0, 1) := by kernel_rfl
theorem fdO_33_1 : fdO Try.prog 33 1 = some (1, 1) := by kernel_rfl
theorem knO_33 : knO Try.prog 33 = true := by kernel_rfl
theorem agO_47 : aggO Try.prog 47 = some false := by kernel_rfl
theorem szO_47 : szO Try.prog 47 = some 1 := by kernel_rfl
theorem zrX_47 : zrX Try.prog 47 = some [.sl 0 0 0 (some 0) 0] := by kernel_rfl
theorem zrO_47 : zrO Try.prog 47 = some [.sl 0 0 0 (some 0) 0] := by kernel_rfl
theorem elX_47 : elX Try.prog 47 = some (9, 1, 16) := by kernel_rfl
theorem elO_47 : elO Try.prog 47 = some 9 := by kernel_rfl
theorem slO_47 : slO Try.prog 47 = some (some 1) := by kernel_rfl
theorem u8O_47 : u8O Try.prog 47 = false := by kernel_rfl
theorem knO_47 : knO Try.prog 47 = true := by kernel_rfl
theorem agO_52 : aggO Try.prog 52 = some false := by kernel_rfl
theorem szO_52 : szO Try.prog 52 = some 1 := by kernel_rfl
theorem zrX_52 : zrX Try.prog 52 = some [.sl 0 0 0 (some 0) 0] := by kernel_rfl
theorem zrO_52 : zrO Try.prog 52 = some [.sl 0 0 0 (some 0) 0] := by kernel_rfl
theorem elX_52 : elX Try.prog 52 = some (3, 1, 8) := by kernel_rfl
theorem elO_52 : elO Try.prog 52 = some 3 := by kernel_rfl
theorem slO_52 : slO Try.prog 52 = some (some 1) := by kernel_rfl
theorem u8O_52 : u8O Try.prog 52 = false := by kernel_rfl
theorem knO_52 : knO Try.prog 52 = true := by kernel_rfl
theorem agO_61 : aggO Try.prog 61 = some false := by kernel_rfl
theorem szO_61 : szO Try.prog 61 = some 1 := by kernel_rfl
theorem zrX_61 : zrX Try.prog 61 = some [.v (.pointer none)] := by kernel_rfl
theorem zrO_61 : zrO Try.prog 61 = some [.v (.pointer none)] := by kernel_rfl
theorem knO_61 : knO Try.prog 61 = true := by kernel_rfl
theorem agO_69 : aggO Try.prog 69 = some false := by kernel_rfl
theorem szO_69 : szO Try.prog 69 = some 1 := by kernel_rfl
theorem zrX_69 : zrX Try.prog 69 = some [.v (.int .u64 0)] := by kernel_rfl
theorem zrO_69 : zrO Try.prog 69 = some [.v (.int .u64 0)] := by kernel_rfl
theorem kdT_69 : kdT Try.prog 69 = some 1 := by kernel_rfl
theorem knO_69 : knO Try.prog 69 = true := by kernel_rfl
theorem inO_69 : inO Try.prog 69 = some .u64 := by kernel_rfl
theorem agO_76 : aggO Try.prog 76 = some true := by kernel_rfl
theorem szO_76 : szO Try.prog 76 = some 2 := by kernel_rfl
theorem zrX_76 : zrX Try.prog 76 = some [.v (.string ByteArray.empty), .v (.int .i64 0)] := by kernel_rfl
theorem zrO_76 : zrO Try.prog 76 = some [.v (.string ByteArray.empty), .v (.int .i64 0)] := by kernel_rfl
theorem plO_76 : plO Try.prog 76 = some [(0, 1), (1, 1)] := by kernel_rfl
theorem fdO_76_0 : fdO Try.prog 76 0 = some (0, 1) := by kernel_rfl
theorem fdO_76_1 : fdO Try.prog 76 1 = some (1, 1) := by kernel_rfl
theorem knO_76 : knO Try.prog 76 = true := by kernel_rfl
theorem agO_77 : aggO Try.prog 77 = some true := by kernel_rfl
theorem szO_77 : szO Try.prog 77 = some 2 := by kernel_rfl
theorem zrX_77 : zrX Try.prog 77 = some [.v (.string ByteArray.empty), .v (.int .i64 0)] := by kernel_rfl
theorem zrO_77 : zrO Try.prog 77 = some [.v (.string ByteArray.empty), .v (.int .i64 0)] := by kernel_rfl
theorem plO_77 : plO Try.prog 77 = some [(0, 1), (1, 1)] := by kernel_rfl
theorem fdO_77_0 : fdO Try.prog 77 0 = some (0, 1) := by kernel_rfl
theorem fdO_77_1 : fdO Try.prog 77 1 = some (1, 1) := by kernel_rfl
theorem kdO_77 : kdO Try.prog 77 = some [2, 1] := by kernel_rfl
theorem knO_77 : knO Try.prog 77 = true := by kernel_rfl
theorem agO_88 : aggO Try.prog 88 = some true := by kernel_rfl
theorem szO_88 : szO Try.prog 88 = some 2 := by kernel_rfl
theorem zrX_88 : zrX Try.prog 88 = some [.sl 0 0 0 (some 0) 0, .v (.int .i64 0)] := by kernel_rfl
theorem zrO_88 : zrO Try.prog 88 = some [.sl 0 0 0 (some 0) 0, .v (.int .i64 0)] := by kernel_rfl
theorem plO_88 : plO Try.prog 88 = some [(0, 1), (1, 1)] := by kernel_rfl
theorem fdO_88_0 : fdO Try.prog 88 0 = some (0, 1) := by kernel_rfl
theorem fdO_88_1 : fdO Try.prog 88 1 = some (1, 1) := by kernel_rfl
theorem knO_88 : knO Try.prog 88 = true := by kernel_rfl
theorem agO_89 : aggO Try.prog 89 = some true := by kernel_rfl
theorem szO_89 : szO Try.prog 89 = some 2 := by kernel_rfl
theorem zrX_89 : zrX Try.prog 89 = some [.sl 0 0 0 (some 0) 0, .v (.int .i64 0)] := by kernel_rfl
theorem zrO_89 : zrO Try.prog 89 = some [.sl 0 0 0 (some 0) 0, .v (.int .i64 0)] := by kernel_rfl
theorem plO_89 : plO Try.prog 89 = some [(0, 1), (1, 1)] := by kernel_rfl
theorem fdO_89_0 : fdO Try.prog 89 0 = some (0, 1) := by kernel_rfl
theorem fdO_89_1 : fdO Try.prog 89 1 = some (1, 1) := by kernel_rfl
theorem knO_89 : knO Try.prog 89 = true := by kernel_rfl
theorem agO_91 : aggO Try.prog 91 = some true := by kernel_rfl
theorem szO_91 : szO Try.prog 91 = some 2 := by kernel_rfl
theorem zrX_91 : zrX Try.prog 91 = some [.v (.string ByteArray.empty), .v (.int .i64 0)] := by kernel_rfl
theorem zrO_91 : zrO Try.prog 91 = some [.v (.string ByteArray.empty), .v (.int .i64 0)] := by kernel_rfl
theorem plO_91 : plO Try.prog 91 = some [(0, 1), (1, 1)] := by kernel_rfl
theorem fdO_91_0 : fdO Try.prog 91 0 = some (0, 1) := by kernel_rfl
theorem fdO_91_1 : fdO Try.prog 91 1 = some (1, 1) := by kernel_rfl
theorem kdO_91 : kdO Try.prog 91 = some [2, 1] := by kernel_rfl
theorem knO_91 : knO Try.prog 91 = true := by kernel_rfl
theorem agO_94 : aggO Try.prog 94 = some false := by kernel_rfl
theorem szO_94 : szO Try.prog 94 = some 1 := by kernel_rfl
theorem zrX_94 : zrX Try.prog 94 = some [.v (.int .u32 0)] := by kernel_rfl
theorem zrO_94 : zrO Try.prog 94 = some [.v (.int .u32 0)] := by kernel_rfl
theorem kdT_94 : kdT Try.prog 94 = some 1 := by kernel_rfl
theorem knO_94 : knO Try.prog 94 = true := by kernel_rfl
theorem inO_94 : inO Try.prog 94 = some .u32 := by kernel_rfl
theorem agO_96 : aggO Try.prog 96 = some false := by kernel_rfl
theorem szO_96 : szO Try.prog 96 = some 1 := by kernel_rfl
theorem zrX_96 : zrX Try.prog 96 = some [.v (.int .u64 0)] := by kernel_rfl
theorem zrO_96 : zrO Try.prog 96 = some [.v (.int .u64 0)] := by kernel_rfl
theorem kdT_96 : kdT Try.prog 96 = some 1 := by kernel_rfl
theorem knO_96 : knO Try.prog 96 = true := by kernel_rfl
theorem inO_96 : inO Try.prog 96 = some .u64 := by kernel_rfl
theorem agO_107 : aggO Try.prog 107 = some true := by kernel_rfl
theorem szO_107 : szO Try.prog 107 = some 4 := by kernel_rfl
theorem zrX_107 : zrX Try.prog 107 = some [.v (.pointer none), .v (.pointer none), .v (.pointer none), .v (.string ByteArray.empty)] := by kernel_rfl
theorem zrO_107 : zrO Try.prog 107 = some [.v (.pointer none), .v (.pointer none), .v (.pointer none), .v (.string ByteArray.empty)] := by kernel_rfl
theorem plO_107 : plO Try.prog 107 = some [(0, 1), (1, 1), (2, 1), (3, 1)] := by kernel_rfl
theorem fdO_107_0 : fdO Try.prog 107 0 = some (0, 1) := by kernel_rfl
theorem fdO_107_1 : fdO Try.prog 107 1 = some (1, 1) := by kernel_rfl
theorem fdO_107_2 : fdO Try.prog 107 2 = some (2, 1) := by kernel_rfl
theorem fdO_107_3 : fdO Try.prog 107 3 = some (3, 1) := by kernel_rfl
theorem knO_107 : knO Try.prog 107 = true := by kernel_rfl
theorem agO_108 : aggO Try.prog 108 = some true := by kernel_rfl
theorem szO_108 : szO Try.prog 108 = some 4 := by kernel_rfl
theorem zrX_108 : zrX Try.prog 108 = some [.v (.pointer none), .v (.pointer none), .v (.pointer none), .v (.string ByteArray.empty)] := by kernel_rfl
theorem zrO_108 : zrO Try.prog 108 = some [.v (.pointer none), .v (.pointer none), .v (.pointer none), .v (.string ByteArray.empty)] := by kernel_rfl
theorem plO_108 : plO Try.prog 108 = some [(0, 1), (1, 1), (2, 1), (3, 1)] := by kernel_rfl
theorem fdO_108_0 : fdO Try.prog 108 0 = some (0, 1) := by kernel_rfl
theorem fdO_108_1 : fdO Try.prog 108 1 = some (1, 1) := by kernel_rfl
theorem fdO_108_2 : fdO Try.prog 108 2 = some (2, 1) := by kernel_rfl
theorem fdO_108_3 : fdO Try.prog 108 3 = some (3, 1) := by kernel_rfl
theorem knO_108 : knO Try.prog 108 = true := by kernel_rfl
theorem agO_110 : aggO Try.prog 110 = some true := by kernel_rfl
theorem szO_110 : szO Try.prog 110 = some 0 := by kernel_rfl
theorem zrX_110 : zrX Try.prog 110 = some [] := by kernel_rfl
theorem zrO_110 : zrO Try.prog 110 = some [] := by kernel_rfl
theorem plO_110 : plO Try.prog 110 = some [(0, 0)] := by kernel_rfl
theorem knO_110 : knO Try.prog 110 = true := by kernel_rfl
theorem agO_111 : aggO Try.prog 111 = some true := by kernel_rfl
theorem szO_111 : szO Try.prog 111 = some 0 := by kernel_rfl
theorem zrX_111 : zrX Try.prog 111 = some [] := by kernel_rfl
theorem zrO_111 : zrO Try.prog 111 = some [] := by kernel_rfl
theorem plO_111 : plO Try.prog 111 = some [(0, 0)] := by kernel_rfl
theorem knO_111 : knO Try.prog 111 = true := by kernel_rfl
theorem agO_112 : aggO Try.prog 112 = some false := by kernel_rfl
theorem szO_112 : szO Try.prog 112 = some 1 := by kernel_rfl
theorem zrX_112 : zrX Try.prog 112 = some [.v (.int .u8 0)] := by kernel_rfl
theorem zrO_112 : zrO Try.prog 112 = some [.v (.int .u8 0)] := by kernel_rfl
theorem kdT_112 : kdT Try.prog 112 = some 1 := by kernel_rfl
theorem knO_112 : knO Try.prog 112 = true := by kernel_rfl
theorem inO_112 : inO Try.prog 112 = some .u8 := by kernel_rfl
theorem agO_113 : aggO Try.prog 113 = some false := by kernel_rfl
theorem szO_113 : szO Try.prog 113 = some 1 := by kernel_rfl
theorem zrX_113 : zrX Try.prog 113 = some [.v (.int .u8 0)] := by kernel_rfl
theorem zrO_113 : zrO Try.prog 113 = some [.v (.int .u8 0)] := by kernel_rfl
theorem kdT_113 : kdT Try.prog 113 = some 1 := by kernel_rfl
theorem knO_113 : knO Try.prog 113 = true := by kernel_rfl
theorem inO_113 : inO Try.prog 113 = some .u8 := by kernel_rfl
theorem agO_115 : aggO Try.prog 115 = some false := by kernel_rfl
theorem szO_115 : szO Try.prog 115 = some 1 := by kernel_rfl
theorem zrX_115 : zrX Try.prog 115 = some [.v (.pointer none)] := by kernel_rfl
theorem zrO_115 : zrO Try.prog 115 = some [.v (.pointer none)] := by kernel_rfl
theorem knO_115 : knO Try.prog 115 = true := by kernel_rfl
theorem agO_116 : aggO Try.prog 116 = some false := by kernel_rfl
theorem szO_116 : szO Try.prog 116 = some 1 := by kernel_rfl
theorem zrX_116 : zrX Try.prog 116 = some [.v (.int .i32 0)] := by kernel_rfl
theorem zrO_116 : zrO Try.prog 116 = some [.v (.int .i32 0)] := by kernel_rfl
theorem kdT_116 : kdT Try.prog 116 = some 1 := by kernel_rfl
theorem knO_116 : knO Try.prog 116 = true := by kernel_rfl
theorem inO_116 : inO Try.prog 116 = some .i32 := by kernel_rfl
theorem agO_117 : aggO Try.prog 117 = some false := by kernel_rfl
theorem szO_117 : szO Try.prog 117 = some 1 := by kernel_rfl
theorem zrX_117 : zrX Try.prog 117 = some [.v (.int .i32 0)] := by kernel_rfl
theorem zrO_117 : zrO Try.prog 117 = some [.v (.int .i32 0)] := by kernel_rfl
theorem kdT_117 : kdT Try.prog 117 = some 1 := by kernel_rfl
theorem knO_117 : knO Try.prog 117 = true := by kernel_rfl
theorem inO_117 : inO Try.prog 117 = some .i32 := by kernel_rfl
theorem agO_118 : aggO Try.prog 118 = some true := by kernel_rfl
theorem szO_118 : szO Try.prog 118 = some 11 := by kernel_rfl
theorem zrX_118 : zrX Try.prog 118 = some [.v (.int .u64 0), .v (.int .u64 0), .v (.int .u32 0), .v (.int .u8 0), .v (.int .u8 0), .v (.int .u8 0), .v (.int .u8 0), .v .nilFunc, .v (.pointer none), .v (.int .i32 0), .v (.int .i32 0)] := by kernel_rfl
theorem zrO_118 : zrO Try.prog 118 = some [.v (.int .u64 0), .v (.int .u64 0), .v (.int .u32 0), .v (.int .u8 0), .v (.int .u8 0), .v (.int .u8 0), .v (.int .u8 0), .v .nilFunc, .v (.pointer none), .v (.int .i32 0), .v (.int .i32 0)] := by kernel_rfl
theorem plO_118 : plO Try.prog 118 = some [(0, 1), (1, 1), (2, 1), (3, 1), (4, 1), (5, 1), (6, 1), (7, 1), (8, 1), (9, 1), (10, 1)] := by kernel_rfl
theorem fdO_118_0 : fdO Try.prog 118 0 = some (0, 1) := by kernel_rfl
theorem fdO_118_1 : fdO Try.prog 118 1 = some (1, 1) := by kernel_rfl
theorem fdO_118_2 : fdO Try.prog 118 2 = some (2, 1) := by kernel_rfl
theorem fdO_118_3 : fdO Try.prog 118 3 = some (3, 1) := by kernel_rfl
theorem fdO_118_4 : fdO Try.prog 118 4 = some (4, 1) := by kernel_rfl
theorem fdO_118_5 : fdO Try.prog 118 5 = some (5, 1) := by kernel_rfl
theorem fdO_118_6 : fdO Try.prog 118 6 = some (6, 1) := by kernel_rfl
theorem fdO_118_7 : fdO Try.prog 118 7 = some (7, 1) := by kernel_rfl
theorem fdO_118_8 : fdO Try.prog 118 8 = some (8, 1) := by kernel_rfl
theorem fdO_118_9 : fdO Try.prog 118 9 = some (9, 1) := by kernel_rfl
theorem fdO_118_10 : fdO Try.prog 118 10 = some (10, 1) := by kernel_rfl
theorem knO_118 : knO Try.prog 118 = true := by kernel_rfl
theorem agO_119 : aggO Try.prog 119 = some true := by kernel_rfl
theorem szO_119 : szO Try.prog 119 = some 11 := by kernel_rfl
theorem zrX_119 : zrX Try.prog 119 = some [.v (.int .u64 0), .v (.int .u64 0), .v (.int .u32 0), .v (.int .u8 0), .v (.int .u8 0), .v (.int .u8 0), .v (.int .u8 0), .v .nilFunc, .v (.pointer none), .v (.int .i32 0), .v (.int .i32 0)] := by kernel_rfl
theorem zrO_119 : zrO Try.prog 119 = some [.v (.int .u64 0), .v (.int .u64 0), .v (.int .u32 0), .v (.int .u8 0), .v (.int .u8 0), .v (.int .u8 0), .v (.int .u8 0), .v .nilFunc, .v (.pointer none), .v (.int .i32 0), .v (.int .i32 0)] := by kernel_rfl
theorem plO_119 : plO Try.prog 119 = some [(0, 1), (1, 1), (2, 1), (3, 1), (4, 1), (5, 1), (6, 1), (7, 1), (8, 1), (9, 1), (10, 1)] := by kernel_rfl
theorem fdO_119_0 : fdO Try.prog 119 0 = some (0, 1) := by kernel_rfl
theorem fdO_119_1 : fdO Try.prog 119 1 = some (1, 1) := by kernel_rfl
theorem fdO_119_2 : fdO Try.prog 119 2 = some (2, 1) := by kernel_rfl
theorem fdO_119_3 : fdO Try.prog 119 3 = some (3, 1) := by kernel_rfl
theorem fdO_119_4 : fdO Try.prog 119 4 = some (4, 1) := by kernel_rfl
theorem fdO_119_5 : fdO Try.prog 119 5 = some (5, 1) := by kernel_rfl
theorem fdO_119_6 : fdO Try.prog 119 6 = some (6, 1) := by kernel_rfl
theorem fdO_119_7 : fdO Try.prog 119 7 = some (7, 1) := by kernel_rfl
theorem fdO_119_8 : fdO Try.prog 119 8 = some (8, 1) := by kernel_rfl
theorem fdO_119_9 : fdO Try.prog 119 9 = some (9, 1) := by kernel_rfl
theorem fdO_119_10 : fdO Try.prog 119 10 = some (10, 1) := by kernel_rfl
theorem knO_119 : knO Try.prog 119 = true := by kernel_rfl
theorem ent_3 : Ent Try.prog 3 := ent_of Try.func3 (by kernel_rfl) rfl
theorem ent_4 : Ent Try.prog 4 := ent_of Try.func4 (by kernel_rfl) rfl
theorem ent_5 : Ent Try.prog 5 := ent_of Try.func5 (by kernel_rfl) rfl
theorem ent_6 : Ent Try.prog 6 := ent_of Try.func6 (by kernel_rfl) rfl
theorem ent_7 : Ent Try.prog 7 := ent_of Try.func7 (by kernel_rfl) rfl
theorem ent_8 : Ent Try.prog 8 := ent_of Try.func8 (by kernel_rfl) rfl
theorem ent_9 : Ent Try.prog 9 := ent_of Try.func9 (by kernel_rfl) rfl
theorem ent_10 : Ent Try.prog 10 := ent_of Try.func10 (by kernel_rfl) rfl
theorem ent_11 : Ent Try.prog 11 := ent_of Try.func11 (by kernel_rfl) rfl
theorem ent_12 : Ent Try.prog 12 := ent_of Try.func12 (by kernel_rfl) rfl
theorem ent_13 : Ent Try.prog 13 := ent_of Try.func13 (by kernel_rfl) rfl
theorem ent_14 : Ent Try.prog 14 := ent_of Try.func14 (by kernel_rfl) rfl
theorem ent_15 : Ent Try.prog 15 := ent_of Try.func15 (by kernel_rfl) rfl
theorem ent_16 : Ent Try.prog 16 := ent_of Try.func16 (by kernel_rfl) rfl
theorem ent_17 : Ent Try.prog 17 := ent_of Try.func17 (by kernel_rfl) rfl
theorem ent_18 : Ent Try.prog 18 := ent_of Try.func18 (by kernel_rfl) rfl
theorem ent_19 : Ent Try.prog 19 := ent_of Try.func19 (by kernel_rfl) rfl
theorem ent_20 : Ent Try.prog 20 := ent_of Try.func20 (by kernel_rfl) rfl
theorem ent_21 : Ent Try.prog 21 := ent_of Try.func21 (by kernel_rfl) rfl
theorem ent_22 : Ent Try.prog 22 := ent_of Try.func22 (by kernel_rfl) rfl
theorem ent_23 : Ent Try.prog 23 := ent_of Try.func23 (by kernel_rfl) rfl
theorem ent_24 : Ent Try.prog 24 := ent_of Try.func24 (by kernel_rfl) rfl
theorem ent_25 : Ent Try.prog 25 := ent_of Try.func25 (by kernel_rfl) rfl
theorem ent_26 : Ent Try.prog 26 := ent_of Try.func26 (by kernel_rfl) rfl
theorem ent_27 : Ent Try.prog 27 := ent_of Try.func27 (by kernel_rfl) rfl
theorem ent_28 : Ent Try.prog 28 := ent_of Try.func28 (by kernel_rfl) rfl
theorem ent_29 : Ent Try.prog 29 := ent_of Try.func29 (by kernel_rfl) rfl
theorem ent_30 : Ent Try.prog 30 := ent_of Try.func30 (by kernel_rfl) rfl
theorem ent_31 : Ent Try.prog 31 := ent_of Try.func31 (by kernel_rfl) rfl
theorem ent_32 : Ent Try.prog 32 := ent_of Try.func32 (by kernel_rfl) rfl
theorem ent_33 : Ent Try.prog 33 := ent_of Try.func33 (by kernel_rfl) rfl
theorem ent_34 : Ent Try.prog 34 := ent_of Try.func34 (by kernel_rfl) rfl
theorem ent_35 : Ent Try.prog 35 := ent_of Try.func35 (by kernel_rfl) rfl
theorem ent_36 : Ent Try.prog 36 := ent_of Try.func36 (by kernel_rfl) rfl
theorem ent_37 : Ent Try.prog 37 := ent_of Try.func37 (by kernel_rfl) rfl
theorem ent_38 : Ent Try.prog 38 := ent_of Try.func38 (by kernel_rfl) rfl
theorem ent_39 : Ent Try.prog 39 := ent_of Try.func39 (by kernel_rfl) rfl
theorem ent_40 : Ent Try.prog 40 := ent_of Try.func40 (by kernel_rfl) rfl
theorem ent_41 : Ent Try.prog 41 := ent_of Try.func41 (by kernel_rfl) rfl
theorem ent_42 : Ent Try.prog 42 := ent_of Try.func42 (by kernel_rfl) rfl
theorem ent_43 : Ent Try.prog 43 := ent_of Try.func43 (by kernel_rfl) rfl
theorem ent_44 : Ent Try.prog 44 := ent_of Try.func44 (by kernel_rfl) rfl
theorem ent_45 : Ent Try.prog 45 := ent_of Try.func45 (by kernel_rfl) rfl
theorem ent_46 : Ent Try.prog 46 := ent_of Try.func46 (by kernel_rfl) rfl
theorem ent_47 : Ent Try.prog 47 := ent_of Try.func47 (by kernel_rfl) rfl
theorem ent_48 : Ent Try.prog 48 := ent_of Try.func48 (by kernel_rfl) rfl
theorem ent_49 : Ent Try.prog 49 := ent_of Try.func49 (by kernel_rfl) rfl
theorem ent_50 : Ent Try.prog 50 := ent_of Try.func50 (by kernel_rfl) rfl
theorem ent_51 : Ent Try.prog 51 := ent_of Try.func51 (by kernel_rfl) rfl
theorem ent_52 : Ent Try.prog 52 := ent_of Try.func52 (by kernel_rfl) rfl
theorem ent_53 : Ent Try.prog 53 := ent_of Try.func53 (by kernel_rfl) rfl
theorem ent_54 : Ent Try.prog 54 := ent_of Try.func54 (by kernel_rfl) rfl
theorem ent_55 : Ent Try.prog 55 := ent_of Try.func55 (by kernel_rfl) rfl
theorem ent_56 : Ent Try.prog 56 := ent_of Try.func56 (by kernel_rfl) rfl
theorem ent_57 : Ent Try.prog 57 := ent_of Try.func57 (by kernel_rfl) rfl
theorem ent_58 : Ent Try.prog 58 := ent_of Try.func58 (by kernel_rfl) rfl
theorem ent_59 : Ent Try.prog 59 := ent_of Try.func59 (by kernel_rfl) rfl
theorem ent_60 : Ent Try.prog 60 := ent_of Try.func60 (by kernel_rfl) rfl
theorem ent_61 : Ent Try.prog 61 := ent_of Try.func61 (by kernel_rfl) rfl
theorem ent_62 : Ent Try.prog 62 := ent_of Try.func62 (by kernel_rfl) rfl
theorem ent_63 : Ent Try.prog 63 := ent_of Try.func63 (by kernel_rfl) rfl
theorem ent_64 : Ent Try.prog 64 := ent_of Try.func64 (by kernel_rfl) rfl
theorem ent_65 : Ent Try.prog 65 := ent_of Try.func65 (by kernel_rfl) rfl
theorem ent_66 : Ent Try.prog 66 := ent_of Try.func66 (by kernel_rfl) rfl
theorem ent_67 : Ent Try.prog 67 := ent_of Try.func67 (by kernel_rfl) rfl
theorem ent_68 : Ent Try.prog 68 := ent_of Try.func68 (by kernel_rfl) rfl
theorem ent_69 : Ent Try.prog 69 := ent_of Try.func69 (by kernel_rfl) rfl
theorem ent_70 : Ent Try.prog 70 := ent_of Try.func70 (by kernel_rfl) rfl
theorem ent_71 : Ent Try.prog 71 := ent_of Try.func71 (by kernel_rfl) rfl
theorem ent_72 : Ent Try.prog 72 := ent_of Try.func72 (by kernel_rfl) rfl
theorem ent_73 : Ent Try.prog 73 := ent_of Try.func73 (by kernel_rfl) rfl
theorem ent_74 : Ent Try.prog 74 := ent_of Try.func74 (by kernel_rfl) rfl
theorem ent_75 : Ent Try.prog 75 := ent_of Try.func75 (by kernel_rfl) rfl
theorem ent_76 : Ent Try.prog 76 := ent_of Try.func76 (by kernel_rfl) rfl
theorem ent_77 : Ent Try.prog 77 := ent_of Try.func77 (by kernel_rfl) rfl
theorem ent_78 : Ent Try.prog 78 := ent_of Try.func78 (by kernel_rfl) rfl
theorem ent_79 : Ent Try.prog 79 := ent_of Try.func79 (by kernel_rfl) rfl
theorem ent_80 : Ent Try.prog 80 := ent_of Try.func80 (by kernel_rfl) rfl
theorem ent_81 : Ent Try.prog 81 := ent_of Try.func81 (by kernel_rfl) rfl
theorem ent_82 : Ent Try.prog 82 := ent_of Try.func82 (by kernel_rfl) rfl
theorem ent_83 : Ent Try.prog 83 := ent_of Try.func83 (by kernel_rfl) rfl
theorem ent_84 : Ent Try.prog 84 := ent_of Try.func84 (by kernel_rfl) rfl
theorem ent_85 : Ent Try.prog 85 := ent_of Try.func85 (by kernel_rfl) rfl
theorem ent_86 : Ent Try.prog 86 := ent_of Try.func86 (by kernel_rfl) rfl
theorem ent_87 : Ent Try.prog 87 := ent_of Try.func87 (by kernel_rfl) rfl
theorem ent_88 : Ent Try.prog 88 := ent_of Try.func88 (by kernel_rfl) rfl
theorem ent_89 : Ent Try.prog 89 := ent_of Try.func89 (by kernel_rfl) rfl
theorem ent_90 : Ent Try.prog 90 := ent_of Try.func90 (by kernel_rfl) rfl
theorem ent_91 : Ent Try.prog 91 := ent_of Try.func91 (by kernel_rfl) rfl
theorem ent_92 : Ent Try.prog 92 := ent_of Try.func92 (by kernel_rfl) rfl
theorem ent_93 : Ent Try.prog 93 := ent_of Try.func93 (by kernel_rfl) rfl
theorem ent_94 : Ent Try.prog 94 := ent_of Try.func94 (by kernel_rfl) rfl
theorem ent_95 : Ent Try.prog 95 := ent_of Try.func95 (by kernel_rfl) rfl
theorem ent_96 : Ent Try.prog 96 := ent_of Try.func96 (by kernel_rfl) rfl
theorem ent_97 : Ent Try.prog 97 := ent_of Try.func97 (by kernel_rfl) rfl
theorem ent_98 : Ent Try.prog 98 := ent_of Try.func98 (by kernel_rfl) rfl
theorem ent_99 : Ent Try.prog 99 := ent_of Try.func99 (by kernel_rfl) rfl
theorem ent_100 : Ent Try.prog 100 := ent_of Try.func100 (by kernel_rfl) rfl
theorem ent_101 : Ent Try.prog 101 := ent_of Try.func101 (by kernel_rfl) rfl
theorem ent_102 : Ent Try.prog 102 := ent_of Try.func102 (by kernel_rfl) rfl
theorem ent_103 : Ent Try.prog 103 := ent_of Try.func103 (by kernel_rfl) rfl
theorem ent_104 : Ent Try.prog 104 := ent_of Try.func104 (by kernel_rfl) rfl
theorem ent_105 : Ent Try.prog 105 := ent_of Try.func105 (by kernel_rfl) rfl
theorem ent_106 : Ent Try.prog 106 := ent_of Try.func106 (by kernel_rfl) rfl
theorem ent_107 : Ent Try.prog 107 := ent_of Try.func107 (by kernel_rfl) rfl
theorem ent_108 : Ent Try.prog 108 := ent_of Try.func108 (by kernel_rfl) rfl
theorem ent_109 : Ent Try.prog 109 := ent_of Try.func109 (by kernel_rfl) rfl
theorem ent_110 : Ent Try.prog 110 := ent_of Try.func110 (by kernel_rfl) rfl
theorem ent_111 : Ent Try.prog 111 := ent_of Try.func111 (by kernel_rfl) rfl
theorem ent_112 : Ent Try.prog 112 := ent_of Try.func112 (by kernel_rfl) rfl
theorem ent_113 : Ent Try.prog 113 := ent_of Try.func113 (by kernel_rfl) rfl
theorem ent_114 : Ent Try.prog 114 := ent_of Try.func114 (by kernel_rfl) rfl
theorem mixd : Try.prog.follows .mixedOrders = true := by kernel_rfl
attribute [simp] argT aOps_nil aOps_cons aStep_yes aStep_no aDo_call aDo_op aCont_some aGo_fn gdA gdB gdC nth callOf fOp keepS ev get_hit get_miss get_nil ofV put fBinX fBin eqv eqvs fPick fLoad fStore fFieldA fIdxA fIdx fSliceX fSlice num fLenX fCall fCap fNew cellsA fExt fUn fNot fConvX fConv fNil fBuild fillA fBuildS fElems fMake fApp fAppZ fMin fMax oneA Value.oneCell' upd_eq upd_ne upd_upd del_eq del_ne w64 resL resV resO ovr_none ovr_one ovr_upd u8s dOps_nil dOps_cons dStep_yes dStep_no dDo_call dDo_op dCont_some dGo_fn opR opW rdN wrN nmAs nmA List.getElem?_cons_zero List.getElem?_cons_succ
attribute [simp] agO_2 szO_2 zrX_2 zrO_2 kdT_2 knO_2 inO_2 agO_3 szO_3 zrX_3 zrO_3 kdT_3 knO_3 inO_3 agO_4 szO_4 zrX_4 zrO_4 kdT_4 knO_4 agO_5 szO_5 zrX_5 zrO_5 kdT_5 knO_5 inO_5 agO_6 szO_6 zrX_6 zrO_6 kdT_6 knO_6 inO_6 agO_7 szO_7 zrX_7 zrO_7 plO_7 fdO_7_0 fdO_7_1 fdO_7_2 fdO_7_3 knO_7 agO_8 szO_8 zrX_8 zrO_8 plO_8 fdO_8_0 fdO_8_1 fdO_8_2 fdO_8_3 knO_8 agO_9 szO_9 zrX_9 zrO_9 slO_9 stO_9 kdT_9 knO_9 agO_10 szO_10 zrX_10 zrO_10 slO_10 stO_10 kdT_10 knO_10 agO_11 szO_11 zrX_11 zrO_11 slO_11 stO_11 kdT_11 knO_11 agO_12 szO_12 zrX_12 zrO_12 kdT_12 knO_12 inO_12 agO_13 szO_13 zrX_13 zrO_13 plO_13 fdO_13_0 fdO_13_1 knO_13 agO_14 szO_14 zrX_14 zrO_14 plO_14 fdO_14_0 fdO_14_1 knO_14 agO_15 szO_15 zrX_15 zrO_15 knO_15 agO_16 szO_16 zrX_16 zrO_16 knO_16 agO_17 szO_17 zrX_17 zrO_17 knO_17 agO_18 szO_18 zrX_18 zrO_18 plO_18 fdO_18_0 knO_18 agO_19 szO_19 zrX_19 zrO_19 plO_19 fdO_19_0 knO_19 agO_21 szO_21 zrX_21 zrO_21 kdT_21 knO_21 inO_21 agO_22 szO_22 zrX_22 zrO_22 elX_22 elO_22 slO_22 u8O_22 knO_22 agO_23 szO_23 zrX_23 zrO_23 elX_23 elO_23 slO_23 u8O_23 knO_23 agO_24 szO_24 zrX_24 zrO_24 plO_24 fdO_24_0 fdO_24_1 knO_24 agO_25 szO_25 zrX_25 zrO_25 plO_25 fdO_25_0 fdO_25_1 knO_25 agO_31 szO_31 zrX_31 zrO_31 elX_31 elO_31 slO_31 u8O_31 knO_31 agO_32 szO_32 zrX_32 zrO_32 plO_32 fdO_32_0 fdO_32_1 knO_32 agO_33 szO_33 zrX_33 zrO_33 plO_33 fdO_33_0 fdO_33_1 knO_33 agO_47 szO_47 zrX_47 zrO_47 elX_47 elO_47 slO_47 u8O_47 knO_47 agO_52 szO_52 zrX_52 zrO_52 elX_52 elO_52 slO_52 u8O_52 knO_52 agO_61 szO_61 zrX_61 zrO_61 knO_61 agO_69 szO_69 zrX_69 zrO_69 kdT_69 knO_69 inO_69 agO_76 szO_76 zrX_76 zrO_76 plO_76 fdO_76_0 fdO_76_1 knO_76 agO_77 szO_77 zrX_77 zrO_77 plO_77 fdO_77_0 fdO_77_1 kdO_77 knO_77 agO_88 szO_88 zrX_88 zrO_88 plO_88 fdO_88_0 fdO_88_1 knO_88 agO_89 szO_89 zrX_89 zrO_89 plO_89 fdO_89_0 fdO_89_1 knO_89 agO_91 szO_91 zrX_91 zrO_91 plO_91 fdO_91_0 fdO_91_1 kdO_91 knO_91 agO_94 szO_94 zrX_94 zrO_94 kdT_94 knO_94 inO_94 agO_96 szO_96 zrX_96 zrO_96 kdT_96 knO_96 inO_96 agO_107 szO_107 zrX_107 zrO_107 plO_107 fdO_107_0 fdO_107_1 fdO_107_2 fdO_107_3 knO_107 agO_108 szO_108 zrX_108 zrO_108 plO_108 fdO_108_0 fdO_108_1 fdO_108_2 fdO_108_3 knO_108 agO_110 szO_110 zrX_110 zrO_110 plO_110 knO_110 agO_111 szO_111 zrX_111 zrO_111 plO_111 knO_111 agO_112 szO_112 zrX_112 zrO_112 kdT_112 knO_112 inO_112 agO_113 szO_113 zrX_113 zrO_113 kdT_113 knO_113 inO_113 agO_115 szO_115 zrX_115 zrO_115 knO_115 agO_116 szO_116 zrX_116 zrO_116 kdT_116 knO_116 inO_116 agO_117 szO_117 zrX_117 zrO_117 kdT_117 knO_117 inO_117 agO_118 szO_118 zrX_118 zrO_118 plO_118 fdO_118_0 fdO_118_1 fdO_118_2 fdO_118_3 fdO_118_4 fdO_118_5 fdO_118_6 fdO_118_7 fdO_118_8 fdO_118_9 fdO_118_10 knO_118 agO_119 szO_119 zrX_119 zrO_119 plO_119 fdO_119_0 fdO_119_1 fdO_119_2 fdO_119_3 fdO_119_4 fdO_119_5 fdO_119_6 fdO_119_7 fdO_119_8 fdO_119_9 fdO_119_10 knO_119
end Go.Proofs.Ytbcooikoaplhcaa
