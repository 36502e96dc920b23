/- The closed facts on the program's tables of types. No condition. MADE BY A PROGRAM (facts.py). -/
import Derived.Test.YtkddpkjgmmmcpaaLB
import Derived.Test.YtkddpkjgmmmcpaaRows
set_option linter.unusedSimpArgs false
set_option linter.unusedVariables false
namespace Go.Proofs.Ytkddpkjgmmmcpaa
open Go Go.RowKit
theorem agO_2 : aggO Try.prog 2 = some false := by kernel_rfl
theorem szO_2 : szO Try.prog 2 = some 1 := by kernel_rfl
theorem zrX_2 : zrX Try.prog 2 = some [.v (.int .i64 0)] := by kernel_rfl
theorem zrO_2 : zrO Try.prog 2 = some [.v (.int .i64 0)] := by kernel_rfl
theorem kdT_2 : kdT Try.prog 2 = some 1 := by kernel_rfl
theorem knO_2 : knO Try.prog 2 = true := by kernel_rfl
theorem inO_2 : inO Try.prog 2 = some .i64 := by kernel_rfl
theorem agO_3 : aggO Try.prog 3 = some false := by kernel_rfl
theorem szO_3 : szO Try.prog 3 = some 1 := by kernel_rfl
theorem zrX_3 : zrX Try.prog 3 = some [.v (.int .i64 0)] := by kernel_rfl
theorem zrO_3 : zrO Try.prog 3 = some [.v (.int .i64 0)] := by kernel_rfl
theorem kdT_3 : kdT Try.prog 3 = some 1 := by kernel_rfl
theorem knO_3 : knO Try.prog 3 = true := by kernel_rfl
theorem inO_3 : inO Try.prog 3 = some .i64 := by kernel_rfl
theorem agO_4 : aggO Try.prog 4 = some false := by kernel_rfl
theorem szO_4 : szO Try.prog 4 = some 1 := by kernel_rfl
theorem zrX_4 : zrX Try.prog 4 = some [.v (.bool false)] := by kernel_rfl
theorem zrO_4 : zrO Try.prog 4 = some [.v (.bool false)] := by kernel_rfl
theorem kdT_4 : kdT Try.prog 4 = some 0 := by kernel_rfl
theorem knO_4 : knO Try.prog 4 = true := by kernel_rfl
theorem agO_5 : aggO Try.prog 5 = some false := by kernel_rfl
theorem szO_5 : szO Try.prog 5 = some 1 := by kernel_rfl
theorem zrX_5 : zrX Try.prog 5 = some [.v (.int .u8 0)] := by kernel_rfl
theorem zrO_5 : zrO Try.prog 5 = some [.v (.int .u8 0)] := by kernel_rfl
theorem kdT_5 : kdT Try.prog 5 = some 1 := by kernel_rfl
theorem knO_5 : knO Try.prog 5 = true := by kernel_rfl
theorem inO_5 : inO Try.prog 5 = some .u8 := by kernel_rfl
theorem agO_6 : aggO Try.prog 6 = some false := by kernel_rfl
theorem szO_6 : szO Try.prog 6 = some 1 := by kernel_rfl
theorem zrX_6 : zrX Try.prog 6 = some [.v (.int .u8 0)] := by kernel_rfl
theorem zrO_6 : zrO Try.prog 6 = some [.v (.int .u8 0)] := by kernel_rfl
theorem kdT_6 : kdT Try.prog 6 = some 1 := by kernel_rfl
theorem knO_6 : knO Try.prog 6 = true := by kernel_rfl
theorem inO_6 : inO Try.prog 6 = some .u8 := by kernel_rfl
theorem agO_7 : aggO Try.prog 7 = some true := by kernel_rfl
theorem szO_7 : szO Try.prog 7 = some 4 := by kernel_rfl
theorem zrX_7 : zrX Try.prog 7 = some [.v (.int .i64 0), .v (.int .i64 0), .v (.bool false), .v (.int .u8 0)] := by kernel_rfl
theorem zrO_7 : zrO Try.prog 7 = some [.v (.int .i64 0), .v (.int .i64 0), .v (.bool false), .v (.int .u8 0)] := by kernel_rfl
theorem plO_7 : plO Try.prog 7 = some [(0, 1), (1, 1), (2, 1), (3, 1)] := by kernel_rfl
theorem fdO_7_0 : fdO Try.prog 7 0 = some (0, 1) := by kernel_rfl
theorem fdO_7_1 : fdO Try.prog 7 1 = some (1, 1) := by kernel_rfl
theorem fdO_7_2 : fdO Try.prog 7 2 = some (2, 1) := by kernel_rfl
theorem fdO_7_3 : fdO Try.prog 7 3 = some (3, 1) := by kernel_rfl
theorem knO_7 : knO Try.prog 7 = true := by kernel_rfl
theorem agO_8 : aggO Try.prog 8 = some true := by kernel_rfl
theorem szO_8 : szO Try.prog 8 = some 4 := by kernel_rfl
theorem zrX_8 : zrX Try.prog 8 = some [.v (.int .i64 0), .v (.int .i64 0), .v (.bool false), .v (.int .u8 0)] := by kernel_rfl
theorem zrO_8 : zrO Try.prog 8 = some [.v (.int .i64 0), .v (.int .i64 0), .v (.bool false), .v (.int .u8 0)] := by kernel_rfl
theorem plO_8 : plO Try.prog 8 = some [(0, 1), (1, 1), (2, 1), (3, 1)] := by kernel_rfl
theorem fdO_8_0 : fdO Try.prog 8 0 = some (0, 1) := by kernel_rfl
theorem fdO_8_1 : fdO Try.prog 8 1 = some (1, 1) := by kernel_rfl
theorem fdO_8_2 : fdO Try.prog 8 2 = some (2, 1) := by kernel_rfl
theorem fdO_8_3 : fdO Try.prog 8 3 = some (3, 1) := by kernel_rfl
theorem knO_8 : knO Try.prog 8 = true := by kernel_rfl
theorem agO_9 : aggO Try.prog 9 = some false := by kernel_rfl
theorem szO_9 : szO Try.prog 9 = some 1 := by kernel_rfl
theorem zrX_9 : zrX Try.prog 9 = some [.v (.string ByteArray.empty)] := by kernel_rfl
theorem zrO_9 : zrO Try.prog 9 = some [.v (.string ByteArray.empty)] := by kernel_rfl
theorem slO_9 : slO Try.prog 9 = some none := by kernel_rfl
theorem stO_9 : stO Try.prog 9 = true := by kernel_rfl
theorem kdT_9 : kdT Try.prog 9 = some 2 := by kernel_rfl
theorem knO_9 : knO Try.prog 9 = true := by kernel_rfl
theorem agO_10 : aggO Try.prog 10 = some false := by kernel_rfl
theorem szO_10 : szO Try.prog 10 = some 1 := by kernel_rfl
theorem zrX_10 : zrX Try.prog 10 = some [.v (.string ByteArray.empty)] := by kernel_rfl
theorem zrO_10 : zrO Try.prog 10 = some [.v (.string ByteArray.empty)] := by kernel_rfl
theorem slO_10 : slO Try.prog 10 = some none := by kernel_rfl
theorem stO_10 : stO Try.prog 10 = true := by kernel_rfl
theorem kdT_10 : kdT Try.prog 10 = some 2 := by kernel_rfl
theorem knO_10 : knO Try.prog 10 = true := by kernel_rfl
theorem agO_11 : aggO Try.prog 11 = some false := by kernel_rfl
theorem szO_11 : szO Try.prog 11 = some 1 := by kernel_rfl
theorem zrX_11 : zrX Try.prog 11 = some [.v (.string ByteArray.empty)] := by kernel_rfl
theorem zrO_11 : zrO Try.prog 11 = some [.v (.string ByteArray.empty)] := by kernel_rfl
theorem slO_11 : slO Try.prog 11 = some none := by kernel_rfl
theorem stO_11 : stO Try.prog 11 = true := by kernel_rfl
theorem kdT_11 : kdT Try.prog 11 = some 2 := by kernel_rfl
theorem knO_11 : knO Try.prog 11 = true := by kernel_rfl
theorem agO_12 : aggO Try.prog 12 = some false := by kernel_rfl
theorem szO_12 : szO Try.prog 12 = some 1 := by kernel_rfl
theorem zrX_12 : zrX Try.prog 12 = some [.v (.int .u64 0)] := by kernel_rfl
theorem zrO_12 : zrO Try.prog 12 = some [.v (.int .u64 0)] := by kernel_rfl
theorem kdT_12 : kdT Try.prog 12 = some 1 := by kernel_rfl
theorem knO_12 : knO Try.prog 12 = true := by kernel_rfl
theorem inO_12 : inO Try.prog 12 = some .u64 := by kernel_rfl
theorem agO_13 : aggO Try.prog 13 = some true := by kernel_rfl
theorem szO_13 : szO Try.prog 13 = some 2 := by kernel_rfl
theorem zrX_13 : zrX Try.prog 13 = some [.v (.string ByteArray.empty), .v (.int .u64 0)] := by kernel_rfl
theorem zrO_13 : zrO Try.prog 13 = some [.v (.string ByteArray.empty), .v (.int .u64 0)] := by kernel_rfl
theorem plO_13 : plO Try.prog 13 = some [(0, 1), (1, 1)] := by kernel_rfl
theorem fdO_13_0 : fdO Try.prog 13 0 = some (0, 1) := by kernel_rfl
theorem fdO_13_1 : fdO Try.prog 13 1 = some (1, 1) := by kernel_rfl
theorem knO_13 : knO Try.prog 13 = true := by kernel_rfl
theorem agO_14 : aggO Try.prog 14 = some true := by kernel_rfl
theorem szO_14 : szO Try.prog 14 = some 2 := by kernel_rfl
theorem zrX_14 : zrX Try.prog 14 = some [.v (.string ByteArray.empty), .v (.int .u64 0)] := by kernel_rfl
theorem zrO_14 : zrO Try.prog 14 = some [.v (.string ByteArray.empty), .v (.int .u64 0)] := by kernel_rfl
theorem plO_14 : plO Try.prog 14 = some [(0, 1), (1, 1)] := by kernel_rfl
theorem fdO_14_0 : fdO Try.prog 14 0 = some (0, 1) := by kernel_rfl
theorem fdO_14_1 : fdO Try.prog 14 1 = some (1, 1) := by kernel_rfl
theorem knO_14 : knO Try.prog 14 = true := by kernel_rfl
theorem agO_15 : aggO Try.prog 15 = some false := by kernel_rfl
theorem szO_15 : szO Try.prog 15 = some 1 := by kernel_rfl
theorem zrX_15 : zrX Try.prog 15 = some [.v (.pointer none)] := by kernel_rfl
theorem zrO_15 : zrO Try.prog 15 = some [.v (.pointer none)] := by kernel_rfl
theorem knO_15 : knO Try.prog 15 = true := by kernel_rfl
theorem agO_16 : aggO Try.prog 16 = some false := by kernel_rfl
theorem szO_16 : szO Try.prog 16 = some 1 := by kernel_rfl
theorem zrX_16 : zrX Try.prog 16 = some [.v (.pointer none)] := by kernel_rfl
theorem zrO_16 : zrO Try.prog 16 = some [.v (.pointer none)] := by kernel_rfl
theorem knO_16 : knO Try.prog 16 = true := by kernel_rfl
theorem agO_17 : aggO Try.prog 17 = some false := by kernel_rfl
theorem szO_17 : szO Try.prog 17 = some 1 := by kernel_rfl
theorem zrX_17 : zrX Try.prog 17 = some [.v (.pointer none)] := by kernel_rfl
theorem zrO_17 : zrO Try.prog 17 = some [.v (.pointer none)] := by kernel_rfl
theorem knO_17 : knO Try.prog 17 = true := by kernel_rfl
theorem agO_18 : aggO Try.prog 18 = some true := by kernel_rfl
theorem szO_18 : szO Try.prog 18 = some 1 := by kernel_rfl
theorem zrX_18 : zrX Try.prog 18 = some [.v (.pointer none)] := by kernel_rfl
theorem zrO_18 : zrO Try.prog 18 = some [.v (.pointer none)] := by kernel_rfl
theorem plO_18 : plO Try.prog 18 = some [(0, 1)] := by kernel_rfl
theorem fdO_18_0 : fdO Try.prog 18 0 = some (0, 1) := by kernel_rfl
theorem knO_18 : knO Try.prog 18 = true := by kernel_rfl
theorem agO_19 : aggO Try.prog 19 = some true := by kernel_rfl
theorem szO_19 : szO Try.prog 19 = some 1 := by kernel_rfl
theorem zrX_19 : zrX Try.prog 19 = some [.v (.pointer none)] := by kernel_rfl
theorem zrO_19 : zrO Try.prog 19 = some [.v (.pointer none)] := by kernel_rfl
theorem plO_19 : plO Try.prog 19 = some [(0, 1)] := by kernel_rfl
theorem fdO_19_0 : fdO Try.prog 19 0 = some (0, 1) := by kernel_rfl
theorem knO_19 : knO Try.prog 19 = true := by kernel_rfl
theorem agO_21 : aggO Try.prog 21 = some false := by kernel_rfl
theorem szO_21 : szO Try.prog 21 = some 1 := by kernel_rfl
theorem zrX_21 : zrX Try.prog 21 = some [.v (.int .i32 0)] := by kernel_rfl
theorem zrO_21 : zrO Try.prog 21 = some [.v (.int .i32 0)] := by kernel_rfl
theorem kdT_21 : kdT Try.prog 21 = some 1 := by kernel_rfl
theorem knO_21 : knO Try.prog 21 = true := by kernel_rfl
theorem inO_21 : inO Try.prog 21 = some .i32 := by kernel_rfl
theorem agO_22 : aggO Try.prog 22 = some false := by kernel_rfl
theorem szO_22 : szO Try.prog 22 = some 1 := by kernel_rfl
theorem zrX_22 : zrX Try.prog 22 = some [.sl 0 0 0 (some 0) 0] := by kernel_rfl
theorem zrO_22 : zrO Try.prog 22 = some [.sl 0 0 0 (some 0) 0] := by kernel_rfl
theorem elX_22 : elX Try.prog 22 = some (103, 2, 24) := by kernel_rfl
theorem elO_22 : elO Try.prog 22 = some 103 := by kernel_rfl
theorem slO_22 : slO Try.prog 22 = some (some 2) := by kernel_rfl
theorem u8O_22 : u8O Try.prog 22 = false := by kernel_rfl
theorem knO_22 : knO Try.prog 22 = true := by kernel_rfl
theorem agO_23 : aggO Try.prog 23 = some true := by kernel_rfl
theorem szO_23 : szO Try.prog 23 = some 1 := by kernel_rfl
theorem zrX_23 : zrX Try.prog 23 = some [.sl 0 0 0 (some 0) 0] := by kernel_rfl
theorem zrO_23 : zrO Try.prog 23 = some [.sl 0 0 0 (some 0) 0] := by kernel_rfl
theorem plO_23 : plO Try.prog 23 = some [(0, 1)] := by kernel_rfl
theorem fdO_23_0 : fdO Try.prog 23 0 = some (0, 1) := by kernel_rfl
theorem knO_23 : knO Try.prog 23 = true := by kernel_rfl
theorem agO_24 : aggO Try.prog 24 = some true := by kernel_rfl
theorem szO_24 : szO Try.prog 24 = some 1 := by kernel_rfl
theorem zrX_24 : zrX Try.prog 24 = some [.sl 0 0 0 (some 0) 0] := by kernel_rfl
theorem zrO_24 : zrO Try.prog 24 = some [.sl 0 0 0 (some 0) 0] := by kernel_rfl
theorem plO_24 : plO Try.prog 24 = some [(0, 1)] := by kernel_rfl
theorem fdO_24_0 : fdO Try.prog 24 0 = some (0, 1) := by kernel_rfl
theorem knO_24 : knO Try.prog 24 = true := by kernel_rfl
theorem agO_25 : aggO Try.prog 25 = some false := by kernel_rfl
theorem szO_25 : szO Try.prog 25 = some 1 := by kernel_rfl
theorem zrX_25 : zrX Try.prog 25 = some [.sl 0 0 0 (some 0) 0] := by kernel_rfl
theorem zrO_25 : zrO Try.prog 25 = some [.sl 0 0 0 (some 0) 0] := by kernel_rfl
theorem elX_25 : elX Try.prog 25 = some (3, 1, 8) := by kernel_rfl
theorem elO_25 : elO Try.prog 25 = some 3 := by kernel_rfl
theorem slO_25 : slO Try.prog 25 = some (some 1) := by kernel_rfl
theorem u8O_25 : u8O Try.prog 25 = false := by kernel_rfl
theorem knO_25 : knO Try.prog 25 = true := by kernel_rfl
theorem agO_29 : aggO Try.prog 29 = some false := by kernel_rfl
theorem szO_29 : szO Try.prog 29 = some 1 := by kernel_rfl
theorem zrX_29 : zrX Try.prog 29 = some [.sl 0 0 0 (some 0) 0] := by kernel_rfl
theorem zrO_29 : zrO Try.prog 29 = some [.sl 0 0 0 (some 0) 0] := by kernel_rfl
theorem elX_29 : elX Try.prog 29 = some (61, 2, 24) := by kernel_rfl
theorem elO_29 : elO Try.prog 29 = some 61 := by kernel_rfl
theorem slO_29 : slO Try.prog 29 = some (some 2) := by kernel_rfl
theorem u8O_29 : u8O Try.prog 29 = false := by kernel_rfl
theorem knO_29 : knO Try.prog 29 = true := by kernel_rfl
theorem agO_30 : aggO Try.prog 30 = some true := by kernel_rfl
theorem szO_30 : szO Try.prog 30 = some 1 := by kernel_rfl
theorem zrX_30 : zrX Try.prog 30 = some [.sl 0 0 0 (some 0) 0] := by kernel_rfl
theorem zrO_30 : zrO Try.prog 30 = some [.sl 0 0 0 (some 0) 0] := by kernel_rfl
theorem plO_30 : plO Try.prog 30 = some [(0, 1)] := by kernel_rfl
theorem fdO_30_0 : fdO Try.prog 30 0 = some (0, 1) := by kernel_rfl
theorem knO_30 : knO Try.prog 30 = true := by kernel_rfl
theorem agO_31 : aggO Try.prog 31 = some true := by kernel_rfl
theorem szO_31 : szO Try.prog 31 = some 1 := by kernel_rfl
theorem zrX_31 : zrX Try.prog 31 = some [.sl 0 0 0 (some 0) 0] := by kernel_rfl
theorem zrO_31 : zrO Try.prog 31 = some [.sl 0 0 0 (some 0) 0] := by kernel_rfl
theorem plO_31 : plO Try.prog 31 = some [(0, 1)] := by kernel_rfl
theorem fdO_31_0 : fdO Try.prog 31 0 = some (0, 1) := by kernel_rfl
theorem knO_31 : knO Try.prog 31 = true := by kernel_rfl
theorem agO_37 : aggO Try.prog 37 = some false := by kernel_rfl
theorem szO_37 : szO Try.prog 37 = some 1 := by kernel_rfl
theorem zrX_37 : zrX Try.prog 37 = some [.sl 0 0 0 (some 0) 0] := by kernel_rfl
theorem zrO_37 : zrO Try.prog 37 = some [.sl 0 0 0 (some 0) 0] := by kernel_rfl
theorem elX_37 : elX Try.prog 37 = some (5, 1, 1) := by kernel_rfl
theorem elO_37 : elO Try.prog 37 = some 5 := by kernel_rfl
theorem slO_37 : slO Try.prog 37 = some (some 1) := by kernel_rfl
theorem u8O_37 : u8O Try.prog 37 = true := by kernel_rfl
theorem knO_37 : knO Try.prog 37 = true := by kernel_rfl
theorem agO_49 : aggO Try.prog 49 = some false := by kernel_rfl
theorem szO_49 : szO Try.prog 49 = some 1 := by kernel_rfl
theorem zrX_49 : zrX Try.prog 49 = some [.sl 0 0 0 (some 0) 0] := by kernel_rfl
theorem zrO_49 : zrO Try.prog 49 = some [.sl 0 0 0 (some 0) 0] := by kernel_rfl
theorem elX_49 : elX Try.prog 49 = some (9, 1, 16) := by kernel_rfl
theorem elO_49 : elO Try.prog 49 = some 9 := by kernel_rfl
theorem slO_49 : slO Try.prog 49 = some (some 1) := by kernel_rfl
theorem u8O_49 : u8O Try.prog 49 = false := by kernel_rfl
theorem knO_49 : knO Try.prog 49 = true := by kernel_rfl
theorem agO_60 : aggO Try.prog 60 = some true := by kernel_rfl
theorem szO_60 : szO Try.prog 60 = some 2 := by kernel_rfl
theorem zrX_60 : zrX Try.prog 60 = some [.v (.string ByteArray.empty), .v (.int .i64 0)] := by kernel_rfl
theorem zrO_60 : zrO Try.prog 60 = some [.v (.string ByteArray.empty), .v (.int .i64 0)] := by kernel_rfl
theorem plO_60 : plO Try.prog 60 = some [(0, 1), (1, 1)] := by kernel_rfl
theorem fdO_60_0 : fdO Try.prog 60 0 = some (0, 1) := by kernel_rfl
theorem fdO_60_1 : fdO Try.prog 60 1 = some (1, 1) := by kernel_rfl
theorem knO_60 : knO Try.prog 60 = true := by kernel_rfl
theorem agO_61 : aggO Try.prog 61 = some true := by kernel_rfl
theorem szO_61 : szO Try.prog 61 = some 2 := by kernel_rfl
theorem zrX_61 : zrX Try.prog 61 = some [.v (.string ByteArray.empty), .v (.int .i64 0)] := by kernel_rfl
theorem zrO_61 : zrO Try.prog 61 = some [.v (.string ByteArray.empty), .v (.int .i64 0)] := by kernel_rfl
theorem plO_61 : plO Try.prog 61 = some [(0, 1), (1, 1)] := by kernel_rfl
theorem fdO_61_0 : fdO Try.prog 61 0 = some (0, 1) := by kernel_rfl
theorem fdO_61_1 : fdO Try.prog 61 1 = some (1, 1) := by kernel_rfl
theorem kdO_61 : kdO Try.prog 61 = some [2, 1] := by kernel_rfl
theorem knO_61 : knO Try.prog 61 = true := by kernel_rfl
theorem agO_71 : aggO Try.prog 71 = some false := by kernel_rfl
theorem szO_71 : szO Try.prog 71 = some 1 := by kernel_rfl
theorem zrX_71 : zrX Try.prog 71 = some [.sl 0 0 0 (some 0) 0] := by kernel_rfl
theorem zrO_71 : zrO Try.prog 71 = some [.sl 0 0 0 (some 0) 0] := by kernel_rfl
theorem elX_71 : elX Try.prog 71 = some (110, 3, 32) := by kernel_rfl
theorem elO_71 : elO Try.prog 71 = some 110 := by kernel_rfl
theorem slO_71 : slO Try.prog 71 = some (some 3) := by kernel_rfl
theorem u8O_71 : u8O Try.prog 71 = false := by kernel_rfl
theorem knO_71 : knO Try.prog 71 = true := by kernel_rfl
theorem agO_74 : aggO Try.prog 74 = some false := by kernel_rfl
theorem szO_74 : szO Try.prog 74 = some 1 := by kernel_rfl
theorem zrX_74 : zrX Try.prog 74 = some [.sl 0 0 0 (some 0) 0] := by kernel_rfl
theorem zrO_74 : zrO Try.prog 74 = some [.sl 0 0 0 (some 0) 0] := by kernel_rfl
theorem elX_74 : elX Try.prog 74 = some (112, 3, 32) := by kernel_rfl
theorem elO_74 : elO Try.prog 74 = some 112 := by kernel_rfl
theorem slO_74 : slO Try.prog 74 = some (some 3) := by kernel_rfl
theorem u8O_74 : u8O Try.prog 74 = false := by kernel_rfl
theorem knO_74 : knO Try.prog 74 = true := by kernel_rfl
theorem agO_83 : aggO Try.prog 83 = some false := by kernel_rfl
theorem szO_83 : szO Try.prog 83 = some 1 := by kernel_rfl
theorem zrX_83 : zrX Try.prog 83 = some [.v (.pointer none)] := by kernel_rfl
theorem zrO_83 : zrO Try.prog 83 = some [.v (.pointer none)] := by kernel_rfl
theorem knO_83 : knO Try.prog 83 = true := by kernel_rfl
theorem agO_103 : aggO Try.prog 103 = some true := by kernel_rfl
theorem szO_103 : szO Try.prog 103 = some 2 := by kernel_rfl
theorem zrX_103 : zrX Try.prog 103 = some [.v (.string ByteArray.empty), .v (.int .i64 0)] := by kernel_rfl
theorem zrO_103 : zrO Try.prog 103 = some [.v (.string ByteArray.empty), .v (.int .i64 0)] := by kernel_rfl
theorem plO_103 : plO Try.prog 103 = some [(0, 1), (1, 1)] := by kernel_rfl
theorem fdO_103_0 : fdO Try.prog 103 0 = some (0, 1) := by kernel_rfl
theorem fdO_103_1 : fdO Try.prog 103 1 = some (1, 1) := by kernel_rfl
theorem kdO_103 : kdO Try.prog 103 = some [2, 1] := by kernel_rfl
theorem knO_103 : knO Try.prog 103 = true := by kernel_rfl
theorem agO_104 : aggO Try.prog 104 = some false := by kernel_rfl
theorem szO_104 : szO Try.prog 104 = some 1 := by kernel_rfl
theorem zrX_104 : zrX Try.prog 104 = some [.sl 0 0 0 (some 0) 0] := by kernel_rfl
theorem zrO_104 : zrO Try.prog 104 = some [.sl 0 0 0 (some 0) 0] := by kernel_rfl
theorem elX_104 : elX Try.prog 104 = some (4, 1, 1) := by kernel_rfl
theorem elO_104 : elO Try.prog 104 = some 4 := by kernel_rfl
theorem slO_104 : slO Try.prog 104 = some (some 1) := by kernel_rfl
theorem u8O_104 : u8O Try.prog 104 = false := by kernel_rfl
theorem knO_104 : knO Try.prog 104 = true := by kernel_rfl
theorem agO_109 : aggO Try.prog 109 = some true := by kernel_rfl
theorem szO_109 : szO Try.prog 109 = some 3 := by kernel_rfl
theorem zrX_109 : zrX Try.prog 109 = some [.v (.string ByteArray.empty), .v (.bool false), .v (.int .i64 0)] := by kernel_rfl
theorem zrO_109 : zrO Try.prog 109 = some [.v (.string ByteArray.empty), .v (.bool false), .v (.int .i64 0)] := by kernel_rfl
theorem plO_109 : plO Try.prog 109 = some [(0, 1), (1, 1), (2, 1)] := by kernel_rfl
theorem fdO_109_0 : fdO Try.prog 109 0 = some (0, 1) := by kernel_rfl
theorem fdO_109_1 : fdO Try.prog 109 1 = some (1, 1) := by kernel_rfl
theorem fdO_109_2 : fdO Try.prog 109 2 = some (2, 1) := by kernel_rfl
theorem knO_109 : knO Try.prog 109 = true := by kernel_rfl
theorem agO_110 : aggO Try.prog 110 = some true := by kernel_rfl
theorem szO_110 : szO Try.prog 110 = some 3 := by kernel_rfl
theorem zrX_110 : zrX Try.prog 110 = some [.v (.string ByteArray.empty), .v (.bool false), .v (.int .i64 0)] := by kernel_rfl
theorem zrO_110 : zrO Try.prog 110 = some [.v (.string ByteArray.empty), .v (.bool false), .v (.int .i64 0)] := by kernel_rfl
theorem plO_110 : plO Try.prog 110 = some [(0, 1), (1, 1), (2, 1)] := by kernel_rfl
theorem fdO_110_0 : fdO Try.prog 110 0 = some (0, 1) := by kernel_rfl
theorem fdO_110_1 : fdO Try.prog 110 1 = some (1, 1) := by kernel_rfl
theorem fdO_110_2 : fdO Try.prog 110 2 = some (2, 1) := by kernel_rfl
theorem kdO_110 : kdO Try.prog 110 = some [2, 0, 1] := by kernel_rfl
theorem knO_110 : knO Try.prog 110 = true := by kernel_rfl
theorem agO_112 : aggO Try.prog 112 = some true := by kernel_rfl
theorem szO_112 : szO Try.prog 112 = some 3 := by kernel_rfl
theorem zrX_112 : zrX Try.prog 112 = some [.v (.string ByteArray.empty), .v (.bool false), .v (.int .i64 0)] := by kernel_rfl
theorem zrO_112 : zrO Try.prog 112 = some [.v (.string ByteArray.empty), .v (.bool false), .v (.int .i64 0)] := by kernel_rfl
theorem plO_112 : plO Try.prog 112 = some [(0, 1), (1, 1), (2, 1)] := by kernel_rfl
theorem fdO_112_0 : fdO Try.prog 112 0 = some (0, 1) := by kernel_rfl
theorem fdO_112_1 : fdO Try.prog 112 1 = some (1, 1) := by kernel_rfl
theorem fdO_112_2 : fdO Try.prog 112 2 = some (2, 1) := by kernel_rfl
theorem kdO_112 : kdO Try.prog 112 = some [2, 0, 1] := by kernel_rfl
theorem knO_112 : knO Try.prog 112 = true := by kernel_rfl
theorem agO_120 : aggO Try.prog 120 = some true := by kernel_rfl
theorem szO_120 : szO Try.prog 120 = some 2 := by kernel_rfl
theorem zrX_120 : zrX Try.prog 120 = some [.sl 0 0 0 (some 0) 0, .v (.int .i64 0)] := by kernel_rfl
theorem zrO_120 : zrO Try.prog 120 = some [.sl 0 0 0 (some 0) 0, .v (.int .i64 0)] := by kernel_rfl
theorem plO_120 : plO Try.prog 120 = some [(0, 1), (1, 1)] := by kernel_rfl
theorem fdO_120_0 : fdO Try.prog 120 0 = some (0, 1) := by kernel_rfl
theorem fdO_120_1 : fdO Try.prog 120 1 = some (1, 1) := by kernel_rfl
theorem knO_120 : knO Try.prog 120 = true := by kernel_rfl
theorem agO_121 : aggO Try.prog 121 = some true := by kernel_rfl
theorem szO_121 : szO Try.prog 121 = some 2 := by kernel_rfl
theorem zrX_121 : zrX Try.prog 121 = some [.sl 0 0 0 (some 0) 0, .v (.int .i64 0)] := by kernel_rfl
theorem zrO_121 : zrO Try.prog 121 = some [.sl 0 0 0 (some 0) 0, .v (.int .i64 0)] := by kernel_rfl
theorem plO_121 : plO Try.prog 121 = some [(0, 1), (1, 1)] := by kernel_rfl
theorem fdO_121_0 : fdO Try.prog 121 0 = some (0, 1) := by kernel_rfl
theorem fdO_121_1 : fdO Try.prog 121 1 = some (1, 1) := by kernel_rfl
theorem knO_121 : knO Try.prog 121 = true := by kernel_rfl
theorem agO_124 : aggO Try.prog 124 = some false := by kernel_rfl
theorem szO_124 : szO Try.prog 124 = some 1 := by kernel_rfl
theorem zrX_124 : zrX Try.prog 124 = some [.sl 0 0 0 (some 0) 0] := by kernel_rfl
theorem zrO_124 : zrO Try.prog 124 = some [.sl 0 0 0 (some 0) 0] := by kernel_rfl
theorem elX_124 : elX Try.prog 124 = some (29, 1, 24) := by kernel_rfl
theorem elO_124 : elO Try.prog 124 = some 29 := by kernel_rfl
theorem slO_124 : slO Try.prog 124 = some (some 1) := by kernel_rfl
theorem u8O_124 : u8O Try.prog 124 = false := by kernel_rfl
theorem knO_124 : knO Try.prog 124 = true := by kernel_rfl
theorem agO_130 : aggO Try.prog 130 = some true := by kernel_rfl
theorem szO_130 : szO Try.prog 130 = some 4 := by kernel_rfl
theorem zrX_130 : zrX Try.prog 130 = some [.v (.pointer none), .v (.pointer none), .v (.pointer none), .v (.string ByteArray.empty)] := by kernel_rfl
theorem zrO_130 : zrO Try.prog 130 = some [.v (.pointer none), .v (.pointer none), .v (.pointer none), .v (.string ByteArray.empty)] := by kernel_rfl
theorem plO_130 : plO Try.prog 130 = some [(0, 1), (1, 1), (2, 1), (3, 1)] := by kernel_rfl
theorem fdO_130_0 : fdO Try.prog 130 0 = some (0, 1) := by kernel_rfl
theorem fdO_130_1 : fdO Try.prog 130 1 = some (1, 1) := by kernel_rfl
theorem fdO_130_2 : fdO Try.prog 130 2 = some (2, 1) := by kernel_rfl
theorem fdO_130_3 : fdO Try.prog 130 3 = some (3, 1) := by kernel_rfl
theorem knO_130 : knO Try.prog 130 = true := by kernel_rfl
theorem agO_131 : aggO Try.prog 131 = some true := by kernel_rfl
theorem szO_131 : szO Try.prog 131 = some 4 := by kernel_rfl
theorem zrX_131 : zrX Try.prog 131 = some [.v (.pointer none), .v (.pointer none), .v (.pointer none), .v (.string ByteArray.empty)] := by kernel_rfl
theorem zrO_131 : zrO Try.prog 131 = some [.v (.pointer none), .v (.pointer none), .v (.pointer none), .v (.string ByteArray.empty)] := by kernel_rfl
theorem plO_131 : plO Try.prog 131 = some [(0, 1), (1, 1), (2, 1), (3, 1)] := by kernel_rfl
theorem fdO_131_0 : fdO Try.prog 131 0 = some (0, 1) := by kernel_rfl
theorem fdO_131_1 : fdO Try.prog 131 1 = some (1, 1) := by kernel_rfl
theorem fdO_131_2 : fdO Try.prog 131 2 = some (2, 1) := by kernel_rfl
theorem fdO_131_3 : fdO Try.prog 131 3 = some (3, 1) := by kernel_rfl
theorem knO_131 : knO Try.prog 131 = true := by kernel_rfl
theorem agO_133 : aggO Try.prog 133 = some true := by kernel_rfl
theorem szO_133 : szO Try.prog 133 = some 0 := by kernel_rfl
theorem zrX_133 : zrX Try.prog 133 = some [] := by kernel_rfl
theorem zrO_133 : zrO Try.prog 133 = some [] := by kernel_rfl
theorem plO_133 : plO Try.prog 133 = some [(0, 0)] := by kernel_rfl
theorem knO_133 : knO Try.prog 133 = true := by kernel_rfl
theorem agO_134 : aggO Try.prog 134 = some true := by kernel_rfl
theorem szO_134 : szO Try.prog 134 = some 0 := by kernel_rfl
theorem zrX_134 : zrX Try.prog 134 = some [] := by kernel_rfl
theorem zrO_134 : zrO Try.prog 134 = some [] := by kernel_rfl
theorem plO_134 : plO Try.prog 134 = some [(0, 0)] := by kernel_rfl
theorem knO_134 : knO Try.prog 134 = true := by kernel_rfl
theorem agO_136 : aggO Try.prog 136 = some false := by kernel_rfl
theorem szO_136 : szO Try.prog 136 = some 1 := by kernel_rfl
theorem zrX_136 : zrX Try.prog 136 = some [.v (.int .u32 0)] := by kernel_rfl
theorem zrO_136 : zrO Try.prog 136 = some [.v (.int .u32 0)] := by kernel_rfl
theorem kdT_136 : kdT Try.prog 136 = some 1 := by kernel_rfl
theorem knO_136 : knO Try.prog 136 = true := by kernel_rfl
theorem inO_136 : inO Try.prog 136 = some .u32 := by kernel_rfl
theorem agO_137 : aggO Try.prog 137 = some false := by kernel_rfl
theorem szO_137 : szO Try.prog 137 = some 1 := by kernel_rfl
theorem zrX_137 : zrX Try.prog 137 = some [.v (.int .u8 0)] := by kernel_rfl
theorem zrO_137 : zrO Try.prog 137 = some [.v (.int .u8 0)] := by kernel_rfl
theorem kdT_137 : kdT Try.prog 137 = some 1 := by kernel_rfl
theorem knO_137 : knO Try.prog 137 = true := by kernel_rfl
theorem inO_137 : inO Try.prog 137 = some .u8 := by kernel_rfl
theorem agO_138 : aggO Try.prog 138 = some false := by kernel_rfl
theorem szO_138 : szO Try.prog 138 = some 1 := by kernel_rfl
theorem zrX_138 : zrX Try.prog 138 = some [.v (.int .u8 0)] := by kernel_rfl
theorem zrO_138 : zrO Try.prog 138 = some [.v (.int .u8 0)] := by kernel_rfl
theorem kdT_138 : kdT Try.prog 138 = some 1 := by kernel_rfl
theorem knO_138 : knO Try.prog 138 = true := by kernel_rfl
theorem inO_138 : inO Try.prog 138 = some .u8 := by kernel_rfl
theorem agO_140 : aggO Try.prog 140 = some false := by kernel_rfl
theorem szO_140 : szO Try.prog 140 = some 1 := by kernel_rfl
theorem zrX_140 : zrX Try.prog 140 = some [.v (.pointer none)] := by kernel_rfl
theorem zrO_140 : zrO Try.prog 140 = some [.v (.pointer none)] := by kernel_rfl
theorem knO_140 : knO Try.prog 140 = true := by kernel_rfl
theorem agO_141 : aggO Try.prog 141 = some false := by kernel_rfl
theorem szO_141 : szO Try.prog 141 = some 1 := by kernel_rfl
theorem zrX_141 : zrX Try.prog 141 = some [.v (.int .i32 0)] := by kernel_rfl
theorem zrO_141 : zrO Try.prog 141 = some [.v (.int .i32 0)] := by kernel_rfl
theorem kdT_141 : kdT Try.prog 141 = some 1 := by kernel_rfl
theorem knO_141 : knO Try.prog 141 = true := by kernel_rfl
theorem inO_141 : inO Try.prog 141 = some .i32 := by kernel_rfl
theorem agO_142 : aggO Try.prog 142 = some false := by kernel_rfl
theorem szO_142 : szO Try.prog 142 = some 1 := by kernel_rfl
theorem zrX_142 : zrX Try.prog 142 = some [.v (.int .i32 0)] := by kernel_rfl
theorem zrO_142 : zrO Try.prog 142 = some [.v (.int .i32 0)] := by kernel_rfl
theorem kdT_142 : kdT Try.prog 142 = some 1 := by kernel_rfl
theorem knO_142 : knO Try.prog 142 = true := by kernel_rfl
theorem inO_142 : inO Try.prog 142 = some .i32 := by kernel_rfl
theorem agO_143 : aggO Try.prog 143 = some true := by kernel_rfl
theorem szO_143 : szO Try.prog 143 = some 11 := by kernel_rfl
theorem zrX_143 : zrX Try.prog 143 = some [.v (.int .u64 0), .v (.int .u64 0), .v (.int .u32 0), .v (.int .u8 0), .v (.int .u8 0), .v (.int .u8 0), .v (.int .u8 0), .v .nilFunc, .v (.pointer none), .v (.int .i32 0), .v (.int .i32 0)] := by kernel_rfl
theorem zrO_143 : zrO Try.prog 143 = some [.v (.int .u64 0), .v (.int .u64 0), .v (.int .u32 0), .v (.int .u8 0), .v (.int .u8 0), .v (.int .u8 0), .v (.int .u8 0), .v .nilFunc, .v (.pointer none), .v (.int .i32 0), .v (.int .i32 0)] := by kernel_rfl
theorem plO_143 : plO Try.prog 143 = some [(0, 1), (1, 1), (2, 1), (3, 1), (4, 1), (5, 1), (6, 1), (7, 1), (8, 1), (9, 1), (10, 1)] := by kernel_rfl
theorem fdO_143_0 : fdO Try.prog 143 0 = some (0, 1) := by kernel_rfl
theorem fdO_143_1 : fdO Try.prog 143 1 = some (1, 1) := by kernel_rfl
theorem fdO_143_2 : fdO Try.prog 143 2 = some (2, 1) := by kernel_rfl
theorem fdO_143_3 : fdO Try.prog 143 3 = some (3, 1) := by kernel_rfl
theorem fdO_143_4 : fdO Try.prog 143 4 = some (4, 1) := by kernel_rfl
theorem fdO_143_5 : fdO Try.prog 143 5 = some (5, 1) := by kernel_rfl
theorem fdO_143_6 : fdO Try.prog 143 6 = some (6, 1) := by kernel_rfl
theorem fdO_143_7 : fdO Try.prog 143 7 = some (7, 1) := by kernel_rfl
theorem fdO_143_8 : fdO Try.prog 143 8 = some (8, 1) := by kernel_rfl
theorem fdO_143_9 : fdO Try.prog 143 9 = some (9, 1) := by kernel_rfl
theorem fdO_143_10 : fdO Try.prog 143 10 = some (10, 1) := by kernel_rfl
theorem knO_143 : knO Try.prog 143 = true := by kernel_rfl
theorem agO_144 : aggO Try.prog 144 = some true := by kernel_rfl
theorem szO_144 : szO Try.prog 144 = some 11 := by kernel_rfl
theorem zrX_144 : zrX Try.prog 144 = some [.v (.int .u64 0), .v (.int .u64 0), .v (.int .u32 0), .v (.int .u8 0), .v (.int .u8 0), .v (.int .u8 0), .v (.int .u8 0), .v .nilFunc, .v (.pointer none), .v (.int .i32 0), .v (.int .i32 0)] := by kernel_rfl
theorem zrO_144 : zrO Try.prog 144 = some [.v (.int .u64 0), .v (.int .u64 0), .v (.int .u32 0), .v (.int .u8 0), .v (.int .u8 0), .v (.int .u8 0), .v (.int .u8 0), .v .nilFunc, .v (.pointer none), .v (.int .i32 0), .v (.int .i32 0)] := by kernel_rfl
theorem plO_144 : plO Try.prog 144 = some [(0, 1), (1, 1), (2, 1), (3, 1), (4, 1), (5, 1), (6, 1), (7, 1), (8, 1), (9, 1), (10, 1)] := by kernel_rfl
theorem fdO_144_0 : fdO Try.prog 144 0 = some (0, 1) := by kernel_rfl
theorem fdO_144_1 : fdO Try.prog 144 1 = some (1, 1) := by kernel_rfl
theorem fdO_144_2 : fdO Try.prog 144 2 = some (2, 1) := by kernel_rfl
theorem fdO_144_3 : fdO Try.prog 144 3 = some (3, 1) := by kernel_rfl
theorem fdO_144_4 : fdO Try.prog 144 4 = some (4, 1) := by kernel_rfl
theorem fdO_144_5 : fdO Try.prog 144 5 = some (5, 1) := by kernel_rfl
theorem fdO_144_6 : fdO Try.prog 144 6 = some (6, 1) := by kernel_rfl
theorem fdO_144_7 : fdO Try.prog 144 7 = some (7, 1) := by kernel_rfl
theorem fdO_144_8 : fdO Try.prog 144 8 = some (8, 1) := by kernel_rfl
theorem fdO_144_9 : fdO Try.prog 144 9 = some (9, 1) := by kernel_rfl
theorem fdO_144_10 : fdO Try.prog 144 10 = some (10, 1) := by kernel_rfl
theorem knO_144 : knO Try.prog 144 = true := by kernel_rfl
theorem ent_3 : Ent Try.prog 3 := ent_of Try.func3 (by kernel_rfl) rfl
theorem ent_4 : Ent Try.prog 4 := ent_of Try.func4 (by kernel_rfl) rfl
theorem ent_5 : Ent Try.prog 5 := ent_of Try.func5 (by kernel_rfl) rfl
theorem ent_6 : Ent Try.prog 6 := ent_of Try.func6 (by kernel_rfl) rfl
theorem ent_7 : Ent Try.prog 7 := ent_of Try.func7 (by kernel_rfl) rfl
theorem ent_8 : Ent Try.prog 8 := ent_of Try.func8 (by kernel_rfl) rfl
theorem ent_9 : Ent Try.prog 9 := ent_of Try.func9 (by kernel_rfl) rfl
theorem ent_10 : Ent Try.prog 10 := ent_of Try.func10 (by kernel_rfl) rfl
theorem ent_11 : Ent Try.prog 11 := ent_of Try.func11 (by kernel_rfl) rfl
theorem ent_12 : Ent Try.prog 12 := ent_of Try.func12 (by kernel_rfl) rfl
theorem ent_13 : Ent Try.prog 13 := ent_of Try.func13 (by kernel_rfl) rfl
theorem ent_14 : Ent Try.prog 14 := ent_of Try.func14 (by kernel_rfl) rfl
theorem ent_15 : Ent Try.prog 15 := ent_of Try.func15 (by kernel_rfl) rfl
theorem ent_16 : Ent Try.prog 16 := ent_of Try.func16 (by kernel_rfl) rfl
theorem ent_17 : Ent Try.prog 17 := ent_of Try.func17 (by kernel_rfl) rfl
theorem ent_18 : Ent Try.prog 18 := ent_of Try.func18 (by kernel_rfl) rfl
theorem ent_19 : Ent Try.prog 19 := ent_of Try.func19 (by kernel_rfl) rfl
theorem ent_20 : Ent Try.prog 20 := ent_of Try.func20 (by kernel_rfl) rfl
theorem ent_21 : Ent Try.prog 21 := ent_of Try.func21 (by kernel_rfl) rfl
theorem ent_22 : Ent Try.prog 22 := ent_of Try.func22 (by kernel_rfl) rfl
theorem ent_23 : Ent Try.prog 23 := ent_of Try.func23 (by kernel_rfl) rfl
theorem ent_24 : Ent Try.prog 24 := ent_of Try.func24 (by kernel_rfl) rfl
theorem ent_25 : Ent Try.prog 25 := ent_of Try.func25 (by kernel_rfl) rfl
theorem ent_26 : Ent Try.prog 26 := ent_of Try.func26 (by kernel_rfl) rfl
theorem ent_27 : Ent Try.prog 27 := ent_of Try.func27 (by kernel_rfl) rfl
theorem ent_28 : Ent Try.prog 28 := ent_of Try.func28 (by kernel_rfl) rfl
theorem ent_29 : Ent Try.prog 29 := ent_of Try.func29 (by kernel_rfl) rfl
theorem ent_30 : Ent Try.prog 30 := ent_of Try.func30 (by kernel_rfl) rfl
theorem ent_31 : Ent Try.prog 31 := ent_of Try.func31 (by kernel_rfl) rfl
theorem ent_32 : Ent Try.prog 32 := ent_of Try.func32 (by kernel_rfl) rfl
theorem ent_33 : Ent Try.prog 33 := ent_of Try.func33 (by kernel_rfl) rfl
theorem ent_34 : Ent Try.prog 34 := ent_of Try.func34 (by kernel_rfl) rfl
theorem ent_35 : Ent Try.prog 35 := ent_of Try.func35 (by kernel_rfl) rfl
theorem ent_36 : Ent Try.prog 36 := ent_of Try.func36 (by kernel_rfl) rfl
theorem ent_37 : Ent Try.prog 37 := ent_of Try.func37 (by kernel_rfl) rfl
theorem ent_38 : Ent Try.prog 38 := ent_of Try.func38 (by kernel_rfl) rfl
theorem ent_39 : Ent Try.prog 39 := ent_of Try.func39 (by kernel_rfl) rfl
theorem ent_40 : Ent Try.prog 40 := ent_of Try.func40 (by kernel_rfl) rfl
theorem ent_41 : Ent Try.prog 41 := ent_of Try.func41 (by kernel_rfl) rfl
theorem ent_42 : Ent Try.prog 42 := ent_of Try.func42 (by kernel_rfl) rfl
theorem ent_43 : Ent Try.prog 43 := ent_of Try.func43 (by kernel_rfl) rfl
theorem ent_44 : Ent Try.prog 44 := ent_of Try.func44 (by kernel_rfl) rfl
theorem ent_45 : Ent Try.prog 45 := ent_of Try.func45 (by kernel_rfl) rfl
theorem ent_46 : Ent Try.prog 46 := ent_of Try.func46 (by kernel_rfl) rfl
theorem ent_47 : Ent Try.prog 47 := ent_of Try.func47 (by kernel_rfl) rfl
theorem ent_48 : Ent Try.prog 48 := ent_of Try.func48 (by kernel_rfl) rfl
theorem ent_49 : Ent Try.prog 49 := ent_of Try.func49 (by kernel_rfl) rfl
theorem ent_50 : Ent Try.prog 50 := ent_of Try.func50 (by kernel_rfl) rfl
theorem ent_51 : Ent Try.prog 51 := ent_of Try.func51 (by kernel_rfl) rfl
theorem ent_52 : Ent Try.prog 52 := ent_of Try.func52 (by kernel_rfl) rfl
theorem ent_53 : Ent Try.prog 53 := ent_of Try.func53 (by kernel_rfl) rfl
theorem ent_54 : Ent Try.prog 54 := ent_of Try.func54 (by kernel_rfl) rfl
theorem ent_55 : Ent Try.prog 55 := ent_of Try.func55 (by kernel_rfl) rfl
theorem ent_56 : Ent Try.prog 56 := ent_of Try.func56 (by kernel_rfl) rfl
theorem ent_57 : Ent Try.prog 57 := ent_of Try.func57 (by kernel_rfl) rfl
theorem ent_58 : Ent Try.prog 58 := ent_of Try.func58 (by kernel_rfl) rfl
theorem ent_59 : Ent Try.prog 59 := ent_of Try.func59 (by kernel_rfl) rfl
theorem ent_60 : Ent Try.prog 60 := ent_of Try.func60 (by kernel_rfl) rfl
theorem ent_61 : Ent Try.prog 61 := ent_of Try.func61 (by kernel_rfl) rfl
theorem ent_62 : Ent Try.prog 62 := ent_of Try.func62 (by kernel_rfl) rfl
theorem ent_63 : Ent Try.prog 63 := ent_of Try.func63 (by kernel_rfl) rfl
theorem ent_64 : Ent Try.prog 64 := ent_of Try.func64 (by kernel_rfl) rfl
theorem ent_65 : Ent Try.prog 65 := ent_of Try.func65 (by kernel_rfl) rfl
theorem ent_66 : Ent Try.prog 66 := ent_of Try.func66 (by kernel_rfl) rfl
theorem ent_67 : Ent Try.prog 67 := ent_of Try.func67 (by kernel_rfl) rfl
theorem ent_68 : Ent Try.prog 68 := ent_of Try.func68 (by kernel_rfl) rfl
theorem ent_69 : Ent Try.prog 69 := ent_of Try.func69 (by kernel_rfl) rfl
theorem ent_70 : Ent Try.prog 70 := ent_of Try.func70 (by kernel_rfl) rfl
theorem ent_71 : Ent Try.prog 71 := ent_of Try.func71 (by kernel_rfl) rfl
theorem ent_72 : Ent Try.prog 72 := ent_of Try.func72 (by kernel_rfl) rfl
theorem ent_73 : Ent Try.prog 73 := ent_of Try.func73 (by kernel_rfl) rfl
theorem ent_74 : Ent Try.prog 74 := ent_of Try.func74 (by kernel_rfl) rfl
theorem ent_75 : Ent Try.prog 75 := ent_of Try.func75 (by kernel_rfl) rfl
theorem ent_76 : Ent Try.prog 76 := ent_of Try.func76 (by kernel_rfl) rfl
theorem ent_77 : Ent Try.prog 77 := ent_of Try.func77 (by kernel_rfl) rfl
theorem ent_78 : Ent Try.prog 78 := ent_of Try.func78 (by kernel_rfl) rfl
theorem ent_79 : Ent Try.prog 79 := ent_of Try.func79 (by kernel_rfl) rfl
theorem ent_80 : Ent Try.prog 80 := ent_of Try.func80 (by kernel_rfl) rfl
theorem ent_81 : Ent Try.prog 81 := ent_of Try.func81 (by kernel_rfl) rfl
theorem ent_82 : Ent Try.prog 82 := ent_of Try.func82 (by kernel_rfl) rfl
theorem ent_83 : Ent Try.prog 83 := ent_of Try.func83 (by kernel_rfl) rfl
theorem ent_84 : Ent Try.prog 84 := ent_of Try.func84 (by kernel_rfl) rfl
theorem ent_85 : Ent Try.prog 85 := ent_of Try.func85 (by kernel_rfl) rfl
theorem ent_86 : Ent Try.prog 86 := ent_of Try.func86 (by kernel_rfl) rfl
theorem ent_87 : Ent Try.prog 87 := ent_of Try.func87 (by kernel_rfl) rfl
theorem ent_88 : Ent Try.prog 88 := ent_of Try.func88 (by kernel_rfl) rfl
theorem ent_89 : Ent Try.prog 89 := ent_of Try.func89 (by kernel_rfl) rfl
theorem ent_90 : Ent Try.prog 90 := ent_of Try.func90 (by kernel_rfl) rfl
theorem ent_91 : Ent Try.prog 91 := ent_of Try.func91 (by kernel_rfl) rfl
theorem ent_92 : Ent Try.prog 92 := ent_of Try.func92 (by kernel_rfl) rfl
theorem ent_93 : Ent Try.prog 93 := ent_of Try.func93 (by kernel_rfl) rfl
theorem ent_94 : Ent Try.prog 94 := ent_of Try.func94 (by kernel_rfl) rfl
theorem ent_95 : Ent Try.prog 95 := ent_of Try.func95 (by kernel_rfl) rfl
theorem ent_96 : Ent Try.prog 96 := ent_of Try.func96 (by kernel_rfl) rfl
theorem ent_97 : Ent Try.prog 97 := ent_of Try.func97 (by kernel_rfl) rfl
theorem ent_98 : Ent Try.prog 98 := ent_of Try.func98 (by kernel_rfl) rfl
theorem ent_99 : Ent Try.prog 99 := ent_of Try.func99 (by kernel_rfl) rfl
theorem ent_100 : Ent Try.prog 100 := ent_of Try.func100 (by kernel_rfl) rfl
theorem ent_101 : Ent Try.prog 101 := ent_of Try.func101 (by kernel_rfl) rfl
theorem ent_102 : Ent Try.prog 102 := ent_of Try.func102 (by kernel_rfl) rfl
theorem ent_103 : Ent Try.prog 103 := ent_of Try.func103 (by kernel_rfl) rfl
theorem ent_104 : Ent Try.prog 104 := ent_of Try.func104 (by kernel_rfl) rfl
theorem ent_105 : Ent Try.prog 105 := ent_of Try.func105 (by kernel_rfl) rfl
theorem ent_106 : Ent Try.prog 106 := ent_of Try.func106 (by kernel_rfl) rfl
theorem ent_107 : Ent Try.prog 107 := ent_of Try.func107 (by kernel_rfl) rfl
theorem ent_108 : Ent Try.prog 108 := ent_of Try.func108 (by kernel_rfl) rfl
theorem ent_109 : Ent Try.prog 109 := ent_of Try.func109 (by kernel_rfl) rfl
theorem ent_110 : Ent Try.prog 110 := ent_of Try.func110 (by kernel_rfl) rfl
theorem ent_111 : Ent Try.prog 111 := ent_of Try.func111 (by kernel_rfl) rfl
theorem ent_112 : Ent Try.prog 112 := ent_of Try.func112 (by kernel_rfl) rfl
theorem ent_113 : Ent Try.prog 113 := ent_of Try.func113 (by kernel_rfl) rfl
theorem ent_114 : Ent Try.prog 114 := ent_of Try.func114 (by kernel_rfl) rfl
theorem ent_115 : Ent Try.prog 115 := ent_of Try.func115 (by kernel_rfl) rfl
theorem ent_116 : Ent Try.prog 116 := ent_of Try.func116 (by kernel_rfl) rfl
theorem ent_117 : Ent Try.prog 117 := ent_of Try.func117 (by kernel_rfl) rfl
theorem ent_118 : Ent Try.prog 118 := ent_of Try.func118 (by kernel_rfl) rfl
theorem ent_119 : Ent Try.prog 119 := ent_of Try.func119 (by kernel_rfl) rfl
theorem ent_120 : Ent Try.prog 120 := ent_of Try.func120 (by kernel_rfl) rfl
theorem ent_121 : Ent Try.prog 121 := ent_of Try.func121 (by kernel_rfl) rfl
theorem ent_122 : Ent Try.prog 122 := ent_of Try.func122 (by kernel_rfl) rfl
theorem ent_123 : Ent Try.prog 123 := ent_of Try.func123 (by kernel_rfl) rfl
theorem ent_124 : Ent Try.prog 124 := ent_of Try.func124 (by kernel_rfl) rfl
theorem ent_125 : Ent Try.prog 125 := ent_of Try.func125 (by kernel_rfl) rfl
theorem mixd : Try.prog.follows .mixedOrders = true := by kernel_rfl
attribute [simp] argT aOps_nil aOps_cons aStep_yes aStep_no aDo_call aDo_op aCont_some aGo_fn gdA gdB gdC nth callOf fOp keepS ev get_hit get_miss get_nil ofV put fBinX fBin eqv eqvs fPick fLoad fStore fFieldA fIdxA fIdx fSliceX fSlice num fLenX fCall fCap fNew cellsA fExt fUn fNot fConvX fConv fNil fBuild fillA fBuildS fElems fMake fApp fAppZ fMin fMax oneA Value.oneCell' upd_eq upd_ne upd_upd del_eq del_ne w64 resL resV resO ovr_none ovr_one ovr_upd u8s dOps_nil dOps_cons dStep_yes dStep_no dDo_call dDo_op dCont_some dGo_fn opR opW rdN wrN nmAs nmA List.getElem?_cons_zero List.getElem?_cons_succ
attribute [simp] agO_2 szO_2 zrX_2 zrO_2 kdT_2 knO_2 inO_2 agO_3 szO_3 zrX_3 zrO_3 kdT_3 knO_3 inO_3 agO_4 szO_4 zrX_4 zrO_4 kdT_4 knO_4 agO_5 szO_5 zrX_5 zrO_5 kdT_5 knO_5 inO_5 agO_6 szO_6 zrX_6 zrO_6 kdT_6 knO_6 inO_6 agO_7 szO_7 zrX_7 zrO_7 plO_7 fdO_7_0 fdO_7_1 fdO_7_2 fdO_7_3 knO_7 agO_8 szO_8 zrX_8 zrO_8 plO_8 fdO_8_0 fdO_8_1 fdO_8_2 fdO_8_3 knO_8 agO_9 szO_9 zrX_9 zrO_9 slO_9 stO_9 kdT_9 knO_9 agO_10 szO_10 zrX_10 zrO_10 slO_10 stO_10 kdT_10 knO_10 agO_11 szO_11 zrX_11 zrO_11 slO_11 stO_11 kdT_11 knO_11 agO_12 szO_12 zrX_12 zrO_12 kdT_12 knO_12 inO_12 agO_13 szO_13 zrX_13 zrO_13 plO_13 fdO_13_0 fdO_13_1 knO_13 agO_14 szO_14 zrX_14 zrO_14 plO_14 fdO_14_0 fdO_14_1 knO_14 agO_15 szO_15 zrX_15 zrO_15 knO_15 agO_16 szO_16 zrX_16 zrO_16 knO_16 agO_17 szO_17 zrX_17 zrO_17 knO_17 agO_18 szO_18 zrX_18 zrO_18 plO_18 fdO_18_0 knO_18 agO_19 szO_19 zrX_19 zrO_19 plO_19 fdO_19_0 knO_19 agO_21 szO_21 zrX_21 zrO_21 kdT_21 knO_21 inO_21 agO_22 szO_22 zrX_22 zrO_22 elX_22 elO_22 slO_22 u8O_22 knO_22 agO_23 szO_23 zrX_23 zrO_23 plO_23 fdO_23_0 knO_23 agO_24 szO_24 zrX_24 zrO_24 plO_24 fdO_24_0 knO_24 agO_25 szO_25 zrX_25 zrO_25 elX_25 elO_25 slO_25 u8O_25 knO_25 agO_29 szO_29 zrX_29 zrO_29 elX_29 elO_29 slO_29 u8O_29 knO_29 agO_30 szO_30 zrX_30 zrO_30 plO_30 fdO_30_0 knO_30 agO_31 szO_31 zrX_31 zrO_31 plO_31 fdO_31_0 knO_31 agO_37 szO_37 zrX_37 zrO_37 elX_37 elO_37 slO_37 u8O_37 knO_37 agO_49 szO_49 zrX_49 zrO_49 elX_49 elO_49 slO_49 u8O_49 knO_49 agO_60 szO_60 zrX_60 zrO_60 plO_60 fdO_60_0 fdO_60_1 knO_60 agO_61 szO_61 zrX_61 zrO_61 plO_61 fdO_61_0 fdO_61_1 kdO_61 knO_61 agO_71 szO_71 zrX_71 zrO_71 elX_71 elO_71 slO_71 u8O_71 knO_71 agO_74 szO_74 zrX_74 zrO_74 elX_74 elO_74 slO_74 u8O_74 knO_74 agO_83 szO_83 zrX_83 zrO_83 knO_83 agO_103 szO_103 zrX_103 zrO_103 plO_103 fdO_103_0 fdO_103_1 kdO_103 knO_103 agO_104 szO_104 zrX_104 zrO_104 elX_104 elO_104 slO_104 u8O_104 knO_104 agO_109 szO_109 zrX_109 zrO_109 plO_109 fdO_109_0 fdO_109_1 fdO_109_2 knO_109 agO_110 szO_110 zrX_110 zrO_110 plO_110 fdO_110_0 fdO_110_1 fdO_110_2 kdO_110 knO_110 agO_112 szO_112 zrX_112 zrO_112 plO_112 fdO_112_0 fdO_112_1 fdO_112_2 kdO_112 knO_112 agO_120 szO_120 zrX_120 zrO_120 plO_120 fdO_120_0 fdO_120_1 knO_120 agO_121 szO_121 zrX_121 zrO_121 plO_121 fdO_121_0 fdO_121_1 knO_121 agO_124 szO_124 zrX_124 zrO_124 elX_124 elO_124 slO_124 u8O_124 knO_124 agO_130 szO_130 zrX_130 zrO_130 plO_130 fdO_130_0 fdO_130_1 fdO_130_2 fdO_130_3 knO_130 agO_131 szO_131 zrX_131 zrO_131 plO_131 fdO_131_0 fdO_131_1 fdO_131_2 fdO_131_3 knO_131 agO_133 szO_133 zrX_133 zrO_133 plO_133 knO_133 agO_134 szO_134 zrX_134 zrO_134 plO_134 knO_134 agO_136 szO_136 zrX_136 zrO_136 kdT_136 knO_136 inO_136 agO_137 szO_137 zrX_137 zrO_137 kdT_137 knO_137 inO_137 agO_138 szO_138 zrX_138 zrO_138 kdT_138 knO_138 inO_138 agO_140 szO_140 zrX_140 zrO_140 knO_140 agO_141 szO_141 zrX_141 zrO_141 kdT_141 knO_141 inO_141 agO_142 szO_142 zrX_142 zrO_142 kdT_142 knO_142 inO_142 agO_143 szO_143 zrX_143 zrO_143 plO_143 fdO_143_0 fdO_143_1 fdO_143_2 fdO_143_3 fdO_143_4 fdO_143_5 fdO_143_6 fdO_143_7 fdO_143_8 fdO_143_9 fdO_143_10 knO_143 agO_144 szO_144 zrX_144 zrO_144 plO_144 fdO_144_0 fdO_144_1 fdO_144_2 fdO_144_3 fdO_144_4 fdO_144_5 fdO_144_6 fdO_144_7 fdO_144_8 fdO_144_9 fdO_144_10 knO_144
end Go.Proofs.Ytkddpkjgmmmcpaa
