/-
  The table of types is the program's.
-/
import Derived.Test.YtladkmnfmpojiaaGreatDoorTb
import Derived.Test.YtladkmnfmpojiaaGreatDoorMf
import Derived.KernelRfl
namespace Go.Proofs.YtladkmnfmpojiaaGreatDoor
namespace I
section
set_option maxRecDepth 100000
theorem y3 : tiB Tryz.prog 3 false 1 (.c (.i .i64 0)) (.nt .i64) = true := by kernel_rfl
theorem y4 : tiB Tryz.prog 4 false 1 (.c (.b false)) .ot = true := by kernel_rfl
theorem y5 : tiB Tryz.prog 5 false 1 (.c (.i .u8 0)) (.nt .u8) = true := by kernel_rfl
theorem y9 : tiB Tryz.prog 9 false 1 (.c (.s [])) .sg = true := by kernel_rfl
theorem y22 : tiB Tryz.prog 22 false 1 (.c (.i .u64 0)) (.nt .u64) = true := by kernel_rfl
theorem y23 : tiB Tryz.prog 23 false 1 (.c (.i .u64 0)) (.nt .u64) = true := by kernel_rfl
theorem y26 : tiB Tryz.prog 26 true 2 z26 (.st [(0, 3), (1, 22)]) = true := by kernel_rfl
theorem v26 : eqB' Tryz.prog 26 [(some .i64), (some .u64)] = true := by kernel_rfl
theorem y28 : tiB Tryz.prog 28 true 3 z28 (.st [(0, 26), (2, 23)]) = true := by kernel_rfl
theorem y32 : tiB Tryz.prog 32 false 1 (.c .q0) (.sl 28) = true := by kernel_rfl
theorem y34 : tiB Tryz.prog 34 false 1 (.c .q0) (.sl 126) = true := by kernel_rfl
theorem y35 : tiB Tryz.prog 35 false 1 (.c .q0) (.sl 69) = true := by kernel_rfl
theorem y36 : tiB Tryz.prog 36 false 1 (.c .q0) (.sl 135) = true := by kernel_rfl
theorem y37 : tiB Tryz.prog 37 false 1 (.c .q0) (.sl 138) = true := by kernel_rfl
theorem y38 : tiB Tryz.prog 38 false 1 (.c .q0) (.sl 96) = true := by kernel_rfl
theorem y39 : tiB Tryz.prog 39 false 1 (.c .q0) (.sl 143) = true := by kernel_rfl
theorem y41 : tiB Tryz.prog 41 true 10 z41 (.st [(0, 34), (1, 35), (2, 36), (3, 3), (4, 3), (5, 3), (6, 3), (7, 37), (8, 38), (9, 39)]) = true := by kernel_rfl
theorem y44 : tiB Tryz.prog 44 false 1 (.c (.i .i64 0)) (.nt .i64) = true := by kernel_rfl
theorem y47 : tiB Tryz.prog 47 false 1 (.c .q0) (.sl 77) = true := by kernel_rfl
theorem y53 : tiB Tryz.prog 53 false 1 (.c (.i .u64 0)) (.nt .u64) = true := by kernel_rfl
theorem y56 : tiB Tryz.prog 56 false 1 (.c .f0) .ot = true := by kernel_rfl
theorem y57 : tiB Tryz.prog 57 false 1 (.c .q0) (.sl 270) = true := by kernel_rfl
theorem y60 : tiB Tryz.prog 60 true 2 z60 (.st [(0, 3), (1, 3)]) = true := by kernel_rfl
theorem y62 : tiB Tryz.prog 62 true 6 z62 (.st [(0, 3), (1, 4), (2, 4), (3, 4), (4, 4), (5, 4)]) = true := by kernel_rfl
theorem y64 : tiB Tryz.prog 64 true 17 z64 (.st [(0, 60), (2, 28), (5, 4), (6, 3), (7, 57), (8, 62), (14, 4), (15, 22), (16, 3)]) = true := by kernel_rfl
theorem y67 : tiB Tryz.prog 67 false 1 (.c .q0) (.sl 64) = true := by kernel_rfl
theorem y69 : tiB Tryz.prog 69 true 2 z69 (.st [(0, 3), (1, 3)]) = true := by kernel_rfl
theorem v69 : eqB' Tryz.prog 69 [(some .i64), (some .i64)] = true := by kernel_rfl
theorem y71 : tiB Tryz.prog 71 true 2 z71 (.st [(0, 67), (1, 35)]) = true := by kernel_rfl
theorem y72 : tiB Tryz.prog 72 false 1 (.c (.i .u16 0)) (.nt .u16) = true := by kernel_rfl
theorem y73 : tiB Tryz.prog 73 false 1 (.c .q0) (.sl 5) = true := by kernel_rfl
theorem y75 : tiB Tryz.prog 75 true 5 z75 (.st [(0, 3), (1, 3), (2, 3), (3, 3), (4, 3)]) = true := by kernel_rfl
theorem y77 : tiB Tryz.prog 77 true 14 z77 (.st [(0, 3), (1, 3), (2, 3), (3, 3), (4, 3), (5, 72), (6, 3), (7, 73), (8, 75), (13, 57)]) = true := by kernel_rfl
theorem y82 : tiB Tryz.prog 82 true 6 z82 (.st [(0, 3), (1, 3), (2, 26), (4, 3), (5, 73)]) = true := by kernel_rfl
theorem y84 : tiB Tryz.prog 84 true 8 z84 (.st [(0, 3), (1, 3), (2, 23), (3, 4), (4, 28), (7, 3)]) = true := by kernel_rfl
theorem y86 : tiB Tryz.prog 86 true 10 z86 (.st [(0, 3), (1, 72), (2, 73), (3, 3), (4, 75), (9, 3)]) = true := by kernel_rfl
theorem y87 : tiB Tryz.prog 87 false 1 (.c .q0) (.sl 240) = true := by kernel_rfl
theorem y89 : tiB Tryz.prog 89 true 6 z89 (.st [(0, 3), (1, 3), (2, 72), (3, 73), (4, 87), (5, 3)]) = true := by kernel_rfl
theorem y90 : tiB Tryz.prog 90 false 1 (.c (.i .u64 0)) (.nt .u64) = true := by kernel_rfl
theorem y92 : tiB Tryz.prog 92 true 8 z92 (.st [(0, 3), (1, 72), (2, 75), (7, 90)]) = true := by kernel_rfl
theorem y94 : tiB Tryz.prog 94 true 42 z94 (.st [(0, 3), (1, 3), (2, 82), (8, 84), (16, 86), (26, 89), (32, 92), (40, 3), (41, 73)]) = true := by kernel_rfl
theorem y96 : tiB Tryz.prog 96 true 44 z96 (.st [(0, 3), (1, 3), (2, 94)]) = true := by kernel_rfl
theorem y100 : tiB Tryz.prog 100 false 1 (.c (.i .u32 0)) (.nt .u32) = true := by kernel_rfl
theorem y103 : tiB Tryz.prog 103 true 5 z103 (.ar 5 22) = true := by kernel_rfl
theorem y105 : tiB Tryz.prog 105 true 2 z105 (.ar 2 73) = true := by kernel_rfl
theorem y107 : tiB Tryz.prog 107 true 2 z107 (.st [(0, 105)]) = true := by kernel_rfl
theorem y108 : tiB Tryz.prog 108 false 1 (.c .q0) (.sl 288) = true := by kernel_rfl
theorem y110 : tiB Tryz.prog 110 true 6 z110 (.st [(0, 107), (2, 3), (3, 3), (4, 3), (5, 108)]) = true := by kernel_rfl
theorem y111 : tiB Tryz.prog 111 false 1 (.c .q0) (.sl 170) = true := by kernel_rfl
theorem y112 : tiB Tryz.prog 112 false 1 (.c .q0) (.sl 176) = true := by kernel_rfl
theorem y113 : tiB Tryz.prog 113 false 1 (.c .q0) (.sl 234) = true := by kernel_rfl
theorem y114 : tiB Tryz.prog 114 false 1 (.c .q0) (.sl 26) = true := by kernel_rfl
theorem y116 : tiB Tryz.prog 116 true 12 z116 (.st [(0, 3), (1, 3), (2, 26), (4, 26), (6, 73), (7, 73), (8, 3), (9, 114), (10, 32), (11, 22)]) = true := by kernel_rfl
theorem y118 : tiB Tryz.prog 118 true 15 z118 (.st [(0, 116), (12, 4), (13, 3), (14, 3)]) = true := by kernel_rfl
theorem y120 : tiB Tryz.prog 120 true 9 z120 (.st [(0, 3), (1, 3), (2, 4), (3, 3), (4, 114), (5, 32), (6, 26), (8, 4)]) = true := by kernel_rfl
theorem y122 : tiB Tryz.prog 122 true 19 z122 (.st [(0, 120), (9, 4), (10, 3), (11, 3), (12, 3), (13, 3), (14, 3), (15, 26), (17, 114), (18, 22)]) = true := by kernel_rfl
theorem y123 : tiB Tryz.prog 123 false 1 (.c .q0) (.sl 226) = true := by kernel_rfl
theorem y124 : tiB Tryz.prog 124 false 1 (.c .q0) (.sl 230) = true := by kernel_rfl
theorem y126 : tiB Tryz.prog 126 true 67 z126 (.st [(0, 64), (17, 4), (18, 110), (24, 111), (25, 112), (26, 113), (27, 118), (42, 122), (61, 26), (63, 123), (64, 124), (65, 3), (66, 3)]) = true := by kernel_rfl
theorem y132 : tiB Tryz.prog 132 false 1 (.c .f0) .ot = true := by kernel_rfl
theorem y135 : tiB Tryz.prog 135 true 3 z135 (.st [(0, 3), (1, 3), (2, 3)]) = true := by kernel_rfl
theorem y138 : tiB Tryz.prog 138 true 4 z138 (.st [(0, 3), (1, 3), (2, 3), (3, 3)]) = true := by kernel_rfl
theorem y140 : tiB Tryz.prog 140 false 1 (.c .f0) .ot = true := by kernel_rfl
theorem y143 : tiB Tryz.prog 143 true 5 z143 (.st [(0, 3), (1, 3), (2, 3), (3, 3), (4, 73)]) = true := by kernel_rfl
theorem y145 : tiB Tryz.prog 145 false 1 (.c .f0) .ot = true := by kernel_rfl
theorem y147 : tiB Tryz.prog 147 false 1 (.c .p0) .pt = true := by kernel_rfl
theorem y149 : tiB Tryz.prog 149 true 10 z149 (.st [(0, 41)]) = true := by kernel_rfl
theorem y152 : tiB Tryz.prog 152 false 1 (.c .q0) (.sl 22) = true := by kernel_rfl
theorem y168 : tiB Tryz.prog 168 false 1 (.c .q0) (.sl 292) = true := by kernel_rfl
theorem y170 : tiB Tryz.prog 170 true 10 z170 (.st [(0, 28), (3, 23), (4, 22), (5, 4), (6, 23), (7, 4), (8, 168), (9, 3)]) = true := by kernel_rfl
theorem y171 : tiB Tryz.prog 171 false 1 (.c .f0) .ot = true := by kernel_rfl
theorem y174 : tiB Tryz.prog 174 true 2 z174 (.st [(0, 22), (1, 22)]) = true := by kernel_rfl
theorem v174 : eqB' Tryz.prog 174 [(some .u64), (some .u64)] = true := by kernel_rfl
theorem y176 : tiB Tryz.prog 176 true 5 z176 (.st [(0, 72), (1, 174), (3, 3), (4, 73)]) = true := by kernel_rfl
theorem y177 : tiB Tryz.prog 177 false 1 (.c .f0) .ot = true := by kernel_rfl
theorem y182 : tiB Tryz.prog 182 true 11 z182 (.st [(0, 100), (1, 100), (2, 75), (7, 90), (8, 3), (9, 3), (10, 3)]) = true := by kernel_rfl
theorem v182 : eqB' Tryz.prog 182 [(some .u32), (some .u32), (some .i64), (some .i64), (some .i64), (some .i64), (some .i64), (some .u64), (some .i64), (some .i64), (some .i64)] = true := by kernel_rfl
theorem y183 : tiB Tryz.prog 183 false 1 (.c .q0) (.sl 349) = true := by kernel_rfl
theorem y185 : tiB Tryz.prog 185 true 7 z185 (.st [(0, 3), (1, 3), (2, 183), (3, 4), (4, 4), (5, 3), (6, 3)]) = true := by kernel_rfl
theorem y187 : tiB Tryz.prog 187 true 3 z187 (.st [(0, 3), (1, 3), (2, 4)]) = true := by kernel_rfl
theorem y188 : tiB Tryz.prog 188 false 1 (.c .q0) (.sl 353) = true := by kernel_rfl
theorem y189 : tiB Tryz.prog 189 false 1 (.c .q0) (.sl 92) = true := by kernel_rfl
theorem y191 : tiB Tryz.prog 191 true 20 z191 (.st [(0, 3), (1, 3), (2, 3), (3, 188), (4, 3), (5, 3), (6, 189), (7, 4), (8, 22), (9, 22), (10, 4), (11, 4), (12, 3), (13, 3), (14, 3), (15, 22), (16, 22), (17, 22), (18, 3), (19, 3)]) = true := by kernel_rfl
theorem y193 : tiB Tryz.prog 193 true 7 z193 (.st [(0, 3), (1, 23), (2, 22), (3, 4), (4, 4), (5, 22), (6, 22)]) = true := by kernel_rfl
theorem y194 : tiB Tryz.prog 194 false 1 (.c .q0) (.sl 357) = true := by kernel_rfl
theorem y196 : tiB Tryz.prog 196 true 66 z196 (.st [(0, 3), (1, 182), (12, 3), (13, 72), (14, 3), (15, 3), (16, 3), (17, 3), (18, 3), (19, 4), (20, 4), (21, 4), (22, 4), (23, 4), (24, 185), (31, 187), (34, 191), (54, 193), (61, 23), (62, 194), (63, 188), (64, 3), (65, 22)]) = true := by kernel_rfl
theorem y197 : tiB Tryz.prog 197 false 1 (.c .q0) (.sl 360) = true := by kernel_rfl
theorem y198 : tiB Tryz.prog 198 false 1 (.c .q0) (.sl 366) = true := by kernel_rfl
theorem y199 : tiB Tryz.prog 199 false 1 (.c .q0) (.sl 363) = true := by kernel_rfl
theorem y201 : tiB Tryz.prog 201 true 2 z201 (.st [(0, 4), (1, 73)]) = true := by kernel_rfl
theorem y202 : tiB Tryz.prog 202 false 1 (.c .q0) (.sl 371) = true := by kernel_rfl
theorem y204 : tiB Tryz.prog 204 true 11 z204 (.st [(0, 3), (1, 3), (2, 197), (3, 198), (4, 199), (5, 3), (6, 201), (8, 202), (9, 3), (10, 3)]) = true := by kernel_rfl
theorem y205 : tiB Tryz.prog 205 false 1 (.c .q0) (.sl 301) = true := by kernel_rfl
theorem y206 : tiB Tryz.prog 206 false 1 (.c .q0) (.sl 213) = true := by kernel_rfl
theorem y208 : tiB Tryz.prog 208 true 11 z208 (.st [(0, 112), (1, 3), (2, 3), (3, 3), (4, 205), (5, 3), (6, 4), (7, 168), (8, 206), (9, 4), (10, 3)]) = true := by kernel_rfl
theorem y210 : tiB Tryz.prog 210 true 8 z210 (.st [(0, 3), (1, 72), (2, 72), (3, 72), (4, 73), (5, 3), (6, 87), (7, 4)]) = true := by kernel_rfl
theorem y211 : tiB Tryz.prog 211 false 1 (.c .q0) (.sl 375) = true := by kernel_rfl
theorem y213 : tiB Tryz.prog 213 true 12 z213 (.st [(0, 3), (1, 3), (2, 72), (3, 72), (4, 174), (6, 3), (7, 3), (8, 3), (9, 4), (10, 73), (11, 211)]) = true := by kernel_rfl
theorem y214 : tiB Tryz.prog 214 false 1 (.c .q0) (.sl 210) = true := by kernel_rfl
theorem y216 : tiB Tryz.prog 216 true 26 z216 (.st [(0, 3), (1, 3), (2, 210), (10, 213), (22, 4), (23, 3), (24, 4), (25, 214)]) = true := by kernel_rfl
theorem y218 : tiB Tryz.prog 218 true 4 z218 (.st [(0, 4), (1, 23), (2, 87), (3, 4)]) = true := by kernel_rfl
theorem y220 : tiB Tryz.prog 220 true 2 z220 (.st [(0, 22), (1, 22)]) = true := by kernel_rfl
theorem y222 : tiB Tryz.prog 222 true 19 z222 (.st [(0, 3), (1, 62), (7, 26), (9, 26), (11, 28), (14, 100), (15, 22), (16, 22), (17, 220)]) = true := by kernel_rfl
theorem y224 : tiB Tryz.prog 224 true 58 z224 (.st [(0, 222), (19, 3), (20, 3), (21, 3), (22, 62), (28, 62), (34, 62), (40, 100), (41, 100), (42, 22), (43, 22), (44, 22), (45, 4), (46, 3), (47, 3), (48, 4), (49, 22), (50, 4), (51, 4), (52, 23), (53, 28), (56, 3), (57, 3)]) = true := by kernel_rfl
theorem y226 : tiB Tryz.prog 226 true 186 z226 (.st [(0, 3), (1, 26), (3, 196), (69, 204), (80, 208), (91, 216), (117, 218), (121, 224), (179, 3), (180, 3), (181, 4), (182, 4), (183, 23), (184, 87), (185, 214)]) = true := by kernel_rfl
theorem y227 : tiB Tryz.prog 227 false 1 (.c .f0) .ot = true := by kernel_rfl
theorem y230 : tiB Tryz.prog 230 true 4 z230 (.st [(0, 3), (1, 4), (2, 3), (3, 73)]) = true := by kernel_rfl
theorem y231 : tiB Tryz.prog 231 false 1 (.c .f0) .ot = true := by kernel_rfl
theorem y234 : tiB Tryz.prog 234 true 6 z234 (.st [(0, 26), (2, 218)]) = true := by kernel_rfl
theorem y236 : tiB Tryz.prog 236 false 1 (.c .f0) .ot = true := by kernel_rfl
theorem y240 : tiB Tryz.prog 240 true 6 z240 (.st [(0, 72), (1, 72), (2, 72), (3, 3), (4, 174)]) = true := by kernel_rfl
theorem y241 : tiB Tryz.prog 241 false 1 (.c .f0) .ot = true := by kernel_rfl
theorem y243 : tiB Tryz.prog 243 true 4 z243 (.st [(0, 3), (1, 3), (2, 3), (3, 241)]) = true := by kernel_rfl
theorem y247 : tiB Tryz.prog 247 false 1 (.c .q0) (.sl 94) = true := by kernel_rfl
theorem y255 : tiB Tryz.prog 255 false 1 (.c .q0) (.sl 73) = true := by kernel_rfl
theorem y256 : tiB Tryz.prog 256 false 1 (.c .q0) (.sl 258) = true := by kernel_rfl
theorem y258 : tiB Tryz.prog 258 true 2 z258 (.st [(0, 3), (1, 22)]) = true := by kernel_rfl
theorem y267 : tiB Tryz.prog 267 true 6 z267 (.st [(0, 174), (2, 3), (3, 3), (4, 73), (5, 112)]) = true := by kernel_rfl
theorem y268 : tiB Tryz.prog 268 false 1 (.c .q0) (.sl 267) = true := by kernel_rfl
theorem y270 : tiB Tryz.prog 270 true 4 z270 (.st [(0, 174), (2, 4), (3, 268)]) = true := by kernel_rfl
theorem y276 : tiB Tryz.prog 276 true 2 z276 (.ar 2 3) = true := by kernel_rfl
theorem y280 : tiB Tryz.prog 280 false 1 (.c .f0) .ot = true := by kernel_rfl
theorem y283 : tiB Tryz.prog 283 false 1 (.c .q0) (.sl 3) = true := by kernel_rfl
theorem y288 : tiB Tryz.prog 288 true 2 z288 (.st [(0, 72), (1, 73)]) = true := by kernel_rfl
theorem y289 : tiB Tryz.prog 289 false 1 (.c .f0) .ot = true := by kernel_rfl
theorem y292 : tiB Tryz.prog 292 true 2 z292 (.st [(0, 72), (1, 3)]) = true := by kernel_rfl
theorem y298 : tiB Tryz.prog 298 false 1 (.c .f0) .ot = true := by kernel_rfl
theorem y301 : tiB Tryz.prog 301 true 3 z301 (.st [(0, 72), (1, 3), (2, 73)]) = true := by kernel_rfl
theorem y302 : tiB Tryz.prog 302 false 1 (.c .f0) .ot = true := by kernel_rfl
theorem y303 : tiB Tryz.prog 303 false 1 (.c .f0) .ot = true := by kernel_rfl
theorem y305 : tiB Tryz.prog 305 false 1 (.c .p0) .pt = true := by kernel_rfl
theorem y306 : tiB Tryz.prog 306 false 1 (.c .f0) .ot = true := by kernel_rfl
theorem y307 : tiB Tryz.prog 307 false 1 (.c .q0) (.sl 243) = true := by kernel_rfl
theorem y309 : tiB Tryz.prog 309 true 2 z309 (.st [(0, 306), (1, 307)]) = true := by kernel_rfl
theorem y316 : tiB Tryz.prog 316 false 1 (.c .p0) .pt = true := by kernel_rfl
theorem y318 : tiB Tryz.prog 318 true 69 z318 (.st [(0, 126), (67, 3), (68, 247)]) = true := by kernel_rfl
theorem y320 : tiB Tryz.prog 320 false 1 (.c .f0) .ot = true := by kernel_rfl
theorem y327 : tiB Tryz.prog 327 true 2 z327 (.ar 2 100) = true := by kernel_rfl
theorem y349 : tiB Tryz.prog 349 true 2 z349 (.st [(0, 3), (1, 73)]) = true := by kernel_rfl
theorem y350 : tiB Tryz.prog 350 false 1 (.c .f0) .ot = true := by kernel_rfl
theorem y353 : tiB Tryz.prog 353 true 15 z353 (.st [(0, 3), (1, 75), (6, 90), (7, 72), (8, 3), (9, 3), (10, 22), (11, 22), (12, 22), (13, 3), (14, 3)]) = true := by kernel_rfl
theorem y357 : tiB Tryz.prog 357 true 2 z357 (.st [(0, 3), (1, 3)]) = true := by kernel_rfl
theorem y360 : tiB Tryz.prog 360 true 5 z360 (.st [(0, 72), (1, 3), (2, 3), (3, 3), (4, 3)]) = true := by kernel_rfl
theorem y363 : tiB Tryz.prog 363 true 14 z363 (.st [(0, 3), (1, 3), (2, 72), (3, 72), (4, 72), (5, 3), (6, 3), (7, 3), (8, 3), (9, 75)]) = true := by kernel_rfl
theorem y366 : tiB Tryz.prog 366 true 15 z366 (.st [(0, 72), (1, 72), (2, 72), (3, 3), (4, 3), (5, 3), (6, 3), (7, 3), (8, 3), (9, 3), (10, 255), (11, 3), (12, 73), (13, 3), (14, 4)]) = true := by kernel_rfl
theorem y368 : tiB Tryz.prog 368 false 1 (.c .f0) .ot = true := by kernel_rfl
theorem y371 : tiB Tryz.prog 371 true 2 z371 (.st [(0, 72), (1, 73)]) = true := by kernel_rfl
theorem y372 : tiB Tryz.prog 372 false 1 (.c .f0) .ot = true := by kernel_rfl
theorem y375 : tiB Tryz.prog 375 true 5 z375 (.st [(0, 72), (1, 72), (2, 174), (4, 73)]) = true := by kernel_rfl
theorem y376 : tiB Tryz.prog 376 false 1 (.c .f0) .ot = true := by kernel_rfl
theorem y378 : tiB Tryz.prog 378 false 1 (.c .f0) .ot = true := by kernel_rfl
theorem y380 : tiB Tryz.prog 380 true 3 z380 (.st [(0, 147), (1, 3), (2, 3)]) = true := by kernel_rfl
theorem y381 : tiB Tryz.prog 381 true 6 z381 (.ar 2 380) = true := by kernel_rfl
theorem y384 : tiB Tryz.prog 384 true 2 z384 (.st [(0, 3), (1, 3)]) = true := by kernel_rfl
theorem y390 : tiB Tryz.prog 390 false 1 (.c .q0) (.sl 396) = true := by kernel_rfl
theorem y394 : tiB Tryz.prog 394 true 17 z394 (.st [(0, 3), (1, 26), (3, 26), (5, 73), (6, 182)]) = true := by kernel_rfl
theorem y396 : tiB Tryz.prog 396 true 19 z396 (.st [(0, 3), (1, 3), (2, 394)]) = true := by kernel_rfl
theorem y401 : tiB Tryz.prog 401 false 1 (.c .f0) .ot = true := by kernel_rfl
theorem y413 : tiB Tryz.prog 413 true 16 z413 (.ar 16 5) = true := by kernel_rfl
theorem v413 : eqB' Tryz.prog 413 [(some .u8), (some .u8), (some .u8), (some .u8), (some .u8), (some .u8), (some .u8), (some .u8), (some .u8), (some .u8), (some .u8), (some .u8), (some .u8), (some .u8), (some .u8), (some .u8)] = true := by kernel_rfl
theorem y428 : tiB Tryz.prog 428 false 1 (.c .q0) (.sl 575) = true := by kernel_rfl
theorem y449 : tiB Tryz.prog 449 false 1 (.c .p0) .pt = true := by kernel_rfl
theorem y459 : tiB Tryz.prog 459 false 1 (.c .f0) .ot = true := by kernel_rfl
theorem y462 : tiB Tryz.prog 462 false 1 (.c .p0) .pt = true := by kernel_rfl
theorem y465 : tiB Tryz.prog 465 true 67 z465 (.st [(0, 196), (66, 428)]) = true := by kernel_rfl
theorem y467 : tiB Tryz.prog 467 true 5 z467 (.st [(0, 3), (1, 3), (2, 3), (3, 349)]) = true := by kernel_rfl
theorem y515 : tiB Tryz.prog 515 true 12 z515 (.st [(0, 3), (1, 3), (2, 349), (4, 75), (9, 90), (10, 22), (11, 23)]) = true := by kernel_rfl
theorem y525 : tiB Tryz.prog 525 true 12 z525 (.st [(0, 213)]) = true := by kernel_rfl
theorem y528 : tiB Tryz.prog 528 false 1 (.c .q0) (.sl 84) = true := by kernel_rfl
theorem y532 : tiB Tryz.prog 532 false 1 (.c .q0) (.sl 89) = true := by kernel_rfl
theorem y563 : tiB Tryz.prog 563 false 1 (.c .q0) (.sl 565) = true := by kernel_rfl
theorem y565 : tiB Tryz.prog 565 true 5 z565 (.st [(0, 3), (1, 3), (2, 3), (3, 3), (4, 73)]) = true := by kernel_rfl
theorem y567 : tiB Tryz.prog 567 false 1 (.c .q0) (.sl 703) = true := by kernel_rfl
theorem y569 : tiB Tryz.prog 569 true 4 z569 (.st [(0, 3), (1, 35), (2, 36), (3, 567)]) = true := by kernel_rfl
theorem y575 : tiB Tryz.prog 575 true 18 z575 (.st [(0, 3), (1, 72), (2, 349), (4, 92), (12, 22), (13, 75)]) = true := by kernel_rfl
theorem y583 : tiB Tryz.prog 583 false 1 (.c .p0) .pt = true := by kernel_rfl
theorem y588 : tiB Tryz.prog 588 true 24 z588 (.st [(0, 191), (20, 72), (21, 3), (22, 188), (23, 428)]) = true := by kernel_rfl
theorem y596 : tiB Tryz.prog 596 true 4 z596 (.st [(0, 4), (1, 4), (2, 4), (3, 4)]) = true := by kernel_rfl
theorem y627 : tiB Tryz.prog 627 false 1 (.c .q0) (.sl 663) = true := by kernel_rfl
theorem y640 : tiB Tryz.prog 640 false 1 (.c .p0) .pt = true := by kernel_rfl
theorem y650 : tiB Tryz.prog 650 true 29 z650 (.st [(0, 216), (26, 3), (27, 206), (28, 532)]) = true := by kernel_rfl
theorem y653 : tiB Tryz.prog 653 false 1 (.c .n0) .ot = true := by kernel_rfl
theorem y658 : tiB Tryz.prog 658 false 1 (.c .p0) .pt = true := by kernel_rfl
theorem y661 : tiB Tryz.prog 661 true 119 z661 (.st [(0, 224), (58, 224), (116, 3), (117, 627), (118, 528)]) = true := by kernel_rfl
theorem y663 : tiB Tryz.prog 663 true 13 z663 (.st [(0, 3), (1, 62), (7, 100), (8, 22), (9, 28), (12, 3)]) = true := by kernel_rfl
theorem v663 : eqB' Tryz.prog 663 [(some .i64), (some .i64), none, none, none, none, none, (some .u32), (some .u64), (some .i64), (some .u64), (some .u64), (some .i64)] = true := by kernel_rfl
theorem y665 : tiB Tryz.prog 665 true 13 z665 (.st [(0, 663)]) = true := by kernel_rfl
theorem y672 : tiB Tryz.prog 672 false 1 (.c .q0) (.sl 72) = true := by kernel_rfl
theorem y674 : tiB Tryz.prog 674 true 12 z674 (.st [(0, 208), (11, 672)]) = true := by kernel_rfl
theorem y676 : tiB Tryz.prog 676 false 1 (.c .p0) .pt = true := by kernel_rfl
theorem y678 : tiB Tryz.prog 678 false 1 (.c .q0) (.sl 86) = true := by kernel_rfl
theorem y680 : tiB Tryz.prog 680 true 12 z680 (.st [(0, 204), (11, 678)]) = true := by kernel_rfl
theorem y699 : tiB Tryz.prog 699 false 1 (.c .f0) .ot = true := by kernel_rfl
theorem y703 : tiB Tryz.prog 703 true 2 z703 (.st [(0, 3), (1, 3)]) = true := by kernel_rfl
theorem y779 : tiB Tryz.prog 779 false 1 (.c .q0) (.sl 255) = true := by kernel_rfl
theorem y784 : tiB Tryz.prog 784 true 16 z784 (.ar 16 100) = true := by kernel_rfl
theorem y814 : tiB Tryz.prog 814 true 3 z814 (.st [(0, 3), (1, 3), (2, 3)]) = true := by kernel_rfl
theorem y830 : tiB Tryz.prog 830 true 2 z830 (.st [(0, 4), (1, 4)]) = true := by kernel_rfl
theorem y868 : tiB Tryz.prog 868 false 1 (.c .q0) (.sl 814) = true := by kernel_rfl
theorem y874 : tiB Tryz.prog 874 false 1 (.c .f0) .ot = true := by kernel_rfl
theorem y881 : tiB Tryz.prog 881 false 1 (.c .q0) (.sl 44) = true := by kernel_rfl
theorem tt_ok : TtS Tryz.prog tt := tts_of ⟨nx, ⟨nx, ⟨sx (qt0 (t := 5) (by kernel_rfl) y5), ⟨nx, trivial, ⟨sx (qt0 (t := 149) (by kernel_rfl) y149), trivial, ⟨sx (qt0 (t := 661) (by kernel_rfl) y661), trivial, trivial, trivial, trivial⟩, trivial, trivial⟩, ⟨sx (qt0 (t := 213) (by kernel_rfl) y213), trivial, trivial, trivial, trivial⟩, trivial⟩, ⟨sx (qt0 (t := 37) (by kernel_rfl) y37), ⟨nx, ⟨sx (qt0 (t := 357) (by kernel_rfl) y357), trivial, trivial, trivial, trivial⟩, trivial, trivial, trivial⟩, trivial, trivial, trivial⟩, ⟨sx (qt0 (t := 53) (by kernel_rfl) y53), trivial, trivial, trivial, ⟨sx (qt0 (t := 309) (by kernel_rfl) y309), ⟨sx (qt0 (t := 565) (by kernel_rfl) y565), trivial, trivial, trivial, trivial⟩, trivial, trivial, trivial⟩⟩, ⟨sx (qt1 (t := 69) (by kernel_rfl) y69 v69), trivial, ⟨sx (qt0 (t := 197) (by kernel_rfl) y197), trivial, trivial, trivial, trivial⟩, trivial, trivial⟩⟩, ⟨sx (qt0 (t := 9) (by kernel_rfl) y9), ⟨nx, ⟨sx (qt0 (t := 89) (by kernel_rfl) y89), trivial, trivial, trivial, trivial⟩, ⟨nx, trivial, ⟨sx (qt0 (t := 665) (by kernel_rfl) y665), trivial, trivial, trivial, trivial⟩, trivial, trivial⟩, trivial, trivial⟩, ⟨sx (qt0 (t := 41) (by kernel_rfl) y41), ⟨sx (qt0 (t := 105) (by kernel_rfl) y105), trivial, trivial, trivial, trivial⟩, trivial, trivial, trivial⟩, ⟨sx (qt0 (t := 57) (by kernel_rfl) y57), trivial, ⟨sx (qt0 (t := 185) (by kernel_rfl) y185), trivial, trivial, trivial, trivial⟩, trivial, ⟨nx, ⟨sx (qt0 (t := 569) (by kernel_rfl) y569), trivial, trivial, trivial, trivial⟩, trivial, trivial, trivial⟩⟩, ⟨sx (qt0 (t := 73) (by kernel_rfl) y73), trivial, ⟨sx (qt0 (t := 201) (by kernel_rfl) y201), trivial, trivial, trivial, trivial⟩, trivial, trivial⟩⟩, ⟨nx, ⟨nx, ⟨nx, ⟨sx (qt0 (t := 349) (by kernel_rfl) y349), trivial, trivial, trivial, trivial⟩, trivial, trivial, trivial⟩, ⟨nx, ⟨sx (qt1 (t := 413) (by kernel_rfl) y413 v413), trivial, trivial, trivial, trivial⟩, trivial, trivial, trivial⟩, trivial, trivial⟩, ⟨nx, trivial, trivial, trivial, ⟨sx (qt0 (t := 301) (by kernel_rfl) y301), trivial, trivial, trivial, trivial⟩⟩, ⟨nx, ⟨nx, ⟨sx (qt0 (t := 381) (by kernel_rfl) y381), trivial, trivial, trivial, trivial⟩, trivial, trivial, trivial⟩, ⟨sx (qt0 (t := 189) (by kernel_rfl) y189), trivial, trivial, trivial, trivial⟩, trivial, trivial⟩, ⟨sx (qt0 (t := 77) (by kernel_rfl) y77), ⟨nx, trivial, ⟨sx (qt0 (t := 653) (by kernel_rfl) y653), trivial, trivial, trivial, trivial⟩, trivial, trivial⟩, ⟨sx (qt0 (t := 205) (by kernel_rfl) y205), trivial, trivial, trivial, trivial⟩, ⟨nx, ⟨sx (qt0 (t := 525) (by kernel_rfl) y525), trivial, trivial, trivial, trivial⟩, trivial, trivial, trivial⟩, trivial⟩⟩, ⟨nx, ⟨nx, ⟨nx, ⟨sx (qt0 (t := 353) (by kernel_rfl) y353), trivial, trivial, trivial, trivial⟩, trivial, trivial, trivial⟩, trivial, trivial, ⟨sx (qt0 (t := 289) (by kernel_rfl) y289), trivial, trivial, trivial, trivial⟩⟩, ⟨nx, ⟨sx (qt0 (t := 113) (by kernel_rfl) y113), trivial, trivial, ⟨sx (qt0 (t := 881) (by kernel_rfl) y881), trivial, trivial, trivial, trivial⟩, trivial⟩, ⟨sx (qt0 (t := 177) (by kernel_rfl) y177), trivial, trivial, trivial, trivial⟩, ⟨sx (qt0 (t := 241) (by kernel_rfl) y241), trivial, trivial, trivial, trivial⟩, ⟨sx (qt0 (t := 305) (by kernel_rfl) y305), trivial, trivial, trivial, trivial⟩⟩, ⟨nx, trivial, ⟨sx (qt0 (t := 193) (by kernel_rfl) y193), ⟨sx (qt0 (t := 449) (by kernel_rfl) y449), trivial, trivial, trivial, trivial⟩, trivial, trivial, trivial⟩, trivial, trivial⟩, ⟨nx, ⟨sx (qt0 (t := 145) (by kernel_rfl) y145), ⟨sx (qt0 (t := 401) (by kernel_rfl) y401), trivial, trivial, trivial, trivial⟩, trivial, trivial, trivial⟩, ⟨nx, ⟨sx (qt0 (t := 465) (by kernel_rfl) y465), trivial, trivial, trivial, trivial⟩, trivial, trivial, trivial⟩, trivial, trivial⟩⟩⟩, ⟨nx, ⟨nx, ⟨sx (qt0 (t := 22) (by kernel_rfl) y22), ⟨sx (qt0 (t := 86) (by kernel_rfl) y86), trivial, trivial, trivial, trivial⟩, trivial, ⟨sx (qt0 (t := 214) (by kernel_rfl) y214), trivial, trivial, trivial, trivial⟩, trivial⟩, ⟨sx (qt0 (t := 38) (by kernel_rfl) y38), trivial, ⟨nx, trivial, ⟨sx (qt0 (t := 678) (by kernel_rfl) y678), trivial, trivial, trivial, trivial⟩, trivial, trivial⟩, ⟨sx (qt0 (t := 230) (by kernel_rfl) y230), trivial, trivial, trivial, trivial⟩, trivial⟩, ⟨nx, ⟨sx (qt0 (t := 118) (by kernel_rfl) y118), trivial, trivial, trivial, trivial⟩, ⟨sx (qt1 (t := 182) (by kernel_rfl) y182 v182), trivial, trivial, trivial, trivial⟩, trivial, trivial⟩, ⟨nx, ⟨nx, ⟨sx (qt0 (t := 390) (by kernel_rfl) y390), trivial, trivial, trivial, trivial⟩, trivial, trivial, trivial⟩, ⟨sx (qt0 (t := 198) (by kernel_rfl) y198), trivial, trivial, trivial, trivial⟩, trivial, trivial⟩⟩, ⟨nx, ⟨sx (qt1 (t := 26) (by kernel_rfl) y26 v26), ⟨sx (qt0 (t := 90) (by kernel_rfl) y90), trivial, trivial, trivial, trivial⟩, trivial, ⟨sx (qt0 (t := 218) (by kernel_rfl) y218), trivial, trivial, trivial, trivial⟩, trivial⟩, ⟨nx, ⟨nx, trivial, trivial, ⟨sx (qt0 (t := 874) (by kernel_rfl) y874), trivial, trivial, trivial, trivial⟩, trivial⟩, ⟨sx (qt0 (t := 170) (by kernel_rfl) y170), trivial, trivial, trivial, trivial⟩, ⟨sx (qt0 (t := 234) (by kernel_rfl) y234), trivial, trivial, trivial, trivial⟩, ⟨sx (qt0 (t := 298) (by kernel_rfl) y298), trivial, trivial, trivial, trivial⟩⟩, ⟨nx, ⟨sx (qt0 (t := 122) (by kernel_rfl) y122), ⟨sx (qt0 (t := 378) (by kernel_rfl) y378), trivial, trivial, trivial, trivial⟩, trivial, trivial, trivial⟩, trivial, trivial, trivial⟩, ⟨nx, ⟨sx (qt0 (t := 138) (by kernel_rfl) y138), ⟨sx (qt0 (t := 394) (by kernel_rfl) y394), trivial, trivial, trivial, trivial⟩, ⟨sx (qt0 (t := 650) (by kernel_rfl) y650), trivial, trivial, trivial, trivial⟩, trivial, trivial⟩, ⟨sx (qt0 (t := 202) (by kernel_rfl) y202), trivial, trivial, trivial, trivial⟩, trivial, trivial⟩⟩, ⟨nx, ⟨nx, ⟨sx (qt0 (t := 94) (by kernel_rfl) y94), ⟨sx (qt0 (t := 350) (by kernel_rfl) y350), trivial, trivial, trivial, trivial⟩, trivial, trivial, trivial⟩, trivial, ⟨sx (qt0 (t := 222) (by kernel_rfl) y222), trivial, trivial, trivial, trivial⟩, trivial⟩, ⟨nx, ⟨sx (qt0 (t := 110) (by kernel_rfl) y110), ⟨sx (qt0 (t := 366) (by kernel_rfl) y366), trivial, trivial, trivial, trivial⟩, trivial, trivial, trivial⟩, ⟨sx (qt1 (t := 174) (by kernel_rfl) y174 v174), trivial, trivial, trivial, trivial⟩, trivial, ⟨sx (qt0 (t := 302) (by kernel_rfl) y302), trivial, ⟨sx (qt0 (t := 814) (by kernel_rfl) y814), trivial, trivial, trivial, trivial⟩, trivial, trivial⟩⟩, ⟨sx (qt0 (t := 62) (by kernel_rfl) y62), ⟨sx (qt0 (t := 126) (by kernel_rfl) y126), trivial, trivial, trivial, trivial⟩, trivial, trivial, ⟨sx (qt0 (t := 318) (by kernel_rfl) y318), trivial, ⟨sx (qt0 (t := 830) (by kernel_rfl) y830), trivial, trivial, trivial, trivial⟩, trivial, trivial⟩⟩, ⟨nx, trivial, ⟨sx (qt0 (t := 206) (by kernel_rfl) y206), ⟨sx (qt0 (t := 462) (by kernel_rfl) y462), trivial, trivial, trivial, trivial⟩, trivial, trivial, trivial⟩, ⟨sx (qt0 (t := 270) (by kernel_rfl) y270), trivial, trivial, trivial, trivial⟩, trivial⟩⟩, ⟨nx, ⟨sx (qt0 (t := 34) (by kernel_rfl) y34), trivial, ⟨nx, trivial, ⟨sx (qt0 (t := 674) (by kernel_rfl) y674), trivial, trivial, trivial, trivial⟩, trivial, trivial⟩, ⟨sx (qt0 (t := 226) (by kernel_rfl) y226), trivial, trivial, trivial, trivial⟩, trivial⟩, ⟨nx, ⟨sx (qt0 (t := 114) (by kernel_rfl) y114), trivial, trivial, trivial, trivial⟩, trivial, trivial, ⟨sx (qt0 (t := 306) (by kernel_rfl) y306), trivial, trivial, trivial, trivial⟩⟩, ⟨nx, trivial, ⟨sx (qt0 (t := 194) (by kernel_rfl) y194), trivial, trivial, trivial, trivial⟩, ⟨sx (qt0 (t := 258) (by kernel_rfl) y258), trivial, trivial, trivial, trivial⟩, trivial⟩, ⟨sx (qt0 (t := 82) (by kernel_rfl) y82), ⟨nx, trivial, ⟨sx (qt0 (t := 658) (by kernel_rfl) y658), trivial, trivial, trivial, trivial⟩, trivial, trivial⟩, ⟨sx (qt0 (t := 210) (by kernel_rfl) y210), trivial, trivial, trivial, trivial⟩, trivial, trivial⟩⟩⟩, ⟨sx (qt0 (t := 3) (by kernel_rfl) y3), ⟨nx, ⟨sx (qt0 (t := 23) (by kernel_rfl) y23), ⟨sx (qt0 (t := 87) (by kernel_rfl) y87), trivial, trivial, trivial, trivial⟩, ⟨nx, trivial, ⟨sx (qt1 (t := 663) (by kernel_rfl) y663 v663), trivial, trivial, trivial, trivial⟩, trivial, trivial⟩, trivial, trivial⟩, ⟨sx (qt0 (t := 39) (by kernel_rfl) y39), ⟨sx (qt0 (t := 103) (by kernel_rfl) y103), trivial, trivial, trivial, trivial⟩, trivial, ⟨sx (qt0 (t := 231) (by kernel_rfl) y231), trivial, trivial, trivial, trivial⟩, trivial⟩, ⟨nx, ⟨nx, ⟨sx (qt0 (t := 375) (by kernel_rfl) y375), trivial, trivial, trivial, trivial⟩, trivial, trivial, trivial⟩, ⟨sx (qt0 (t := 183) (by kernel_rfl) y183), trivial, trivial, trivial, trivial⟩, ⟨sx (qt0 (t := 247) (by kernel_rfl) y247), trivial, trivial, trivial, trivial⟩, ⟨nx, ⟨sx (qt0 (t := 567) (by kernel_rfl) y567), trivial, trivial, trivial, trivial⟩, trivial, trivial, trivial⟩⟩, ⟨sx (qt0 (t := 71) (by kernel_rfl) y71), ⟨sx (qt0 (t := 135) (by kernel_rfl) y135), trivial, trivial, trivial, trivial⟩, ⟨sx (qt0 (t := 199) (by kernel_rfl) y199), trivial, trivial, trivial, trivial⟩, trivial, ⟨sx (qt0 (t := 327) (by kernel_rfl) y327), ⟨sx (qt0 (t := 583) (by kernel_rfl) y583), trivial, trivial, trivial, trivial⟩, trivial, trivial, trivial⟩⟩⟩, ⟨nx, ⟨nx, trivial, trivial, trivial, ⟨sx (qt0 (t := 283) (by kernel_rfl) y283), trivial, trivial, trivial, trivial⟩⟩, ⟨nx, ⟨sx (qt0 (t := 107) (by kernel_rfl) y107), ⟨sx (qt0 (t := 363) (by kernel_rfl) y363), trivial, trivial, trivial, trivial⟩, trivial, trivial, trivial⟩, ⟨sx (qt0 (t := 171) (by kernel_rfl) y171), trivial, trivial, trivial, trivial⟩, trivial, trivial⟩, ⟨nx, ⟨sx (qt0 (t := 123) (by kernel_rfl) y123), trivial, trivial, trivial, trivial⟩, ⟨sx (qt0 (t := 187) (by kernel_rfl) y187), trivial, ⟨sx (qt0 (t := 699) (by kernel_rfl) y699), trivial, trivial, trivial, trivial⟩, trivial, trivial⟩, trivial, trivial⟩, ⟨sx (qt0 (t := 75) (by kernel_rfl) y75), trivial, ⟨nx, ⟨sx (qt0 (t := 459) (by kernel_rfl) y459), trivial, trivial, trivial, trivial⟩, trivial, trivial, trivial⟩, ⟨sx (qt0 (t := 267) (by kernel_rfl) y267), trivial, ⟨sx (qt0 (t := 779) (by kernel_rfl) y779), trivial, trivial, trivial, trivial⟩, trivial, trivial⟩, trivial⟩⟩, ⟨nx, trivial, ⟨sx (qt0 (t := 47) (by kernel_rfl) y47), ⟨sx (qt0 (t := 111) (by kernel_rfl) y111), trivial, trivial, trivial, trivial⟩, trivial, trivial, ⟨sx (qt0 (t := 303) (by kernel_rfl) y303), trivial, trivial, trivial, trivial⟩⟩, ⟨nx, trivial, ⟨sx (qt0 (t := 191) (by kernel_rfl) y191), trivial, ⟨sx (qt0 (t := 703) (by kernel_rfl) y703), trivial, trivial, trivial, trivial⟩, trivial, trivial⟩, ⟨sx (qt0 (t := 255) (by kernel_rfl) y255), trivial, trivial, trivial, trivial⟩, ⟨nx, ⟨sx (qt0 (t := 575) (by kernel_rfl) y575), trivial, trivial, trivial, trivial⟩, trivial, trivial, trivial⟩⟩, ⟨nx, ⟨sx (qt0 (t := 143) (by kernel_rfl) y143), trivial, trivial, trivial, trivial⟩, trivial, trivial, trivial⟩⟩, ⟨nx, ⟨sx (qt0 (t := 35) (by kernel_rfl) y35), trivial, trivial, ⟨sx (qt0 (t := 227) (by kernel_rfl) y227), trivial, trivial, trivial, trivial⟩, trivial⟩, ⟨nx, ⟨nx, ⟨sx (qt0 (t := 371) (by kernel_rfl) y371), trivial, trivial, trivial, trivial⟩, ⟨sx (qt0 (t := 627) (by kernel_rfl) y627), trivial, trivial, trivial, trivial⟩, trivial, trivial⟩, trivial, ⟨sx (qt0 (t := 243) (by kernel_rfl) y243), trivial, trivial, trivial, trivial⟩, ⟨sx (qt0 (t := 307) (by kernel_rfl) y307), ⟨sx (qt0 (t := 563) (by kernel_rfl) y563), trivial, trivial, trivial, trivial⟩, trivial, trivial, trivial⟩⟩, ⟨sx (qt0 (t := 67) (by kernel_rfl) y67), trivial, trivial, ⟨nx, ⟨sx (qt0 (t := 515) (by kernel_rfl) y515), trivial, trivial, trivial, trivial⟩, trivial, trivial, trivial⟩, trivial⟩, ⟨nx, ⟨sx (qt0 (t := 147) (by kernel_rfl) y147), trivial, trivial, trivial, trivial⟩, ⟨sx (qt0 (t := 211) (by kernel_rfl) y211), ⟨sx (qt0 (t := 467) (by kernel_rfl) y467), trivial, trivial, trivial, trivial⟩, trivial, trivial, trivial⟩, trivial, trivial⟩⟩⟩, ⟨sx (qt0 (t := 4) (by kernel_rfl) y4), ⟨nx, ⟨nx, trivial, ⟨sx (qt0 (t := 152) (by kernel_rfl) y152), trivial, trivial, trivial, trivial⟩, ⟨sx (qt0 (t := 216) (by kernel_rfl) y216), trivial, trivial, trivial, trivial⟩, ⟨sx (qt0 (t := 280) (by kernel_rfl) y280), trivial, trivial, trivial, trivial⟩⟩, ⟨nx, ⟨nx, ⟨sx (qt0 (t := 360) (by kernel_rfl) y360), trivial, trivial, trivial, trivial⟩, trivial, trivial, trivial⟩, ⟨sx (qt0 (t := 168) (by kernel_rfl) y168), trivial, ⟨sx (qt0 (t := 680) (by kernel_rfl) y680), trivial, trivial, trivial, trivial⟩, trivial, trivial⟩, trivial, trivial⟩, ⟨sx (qt0 (t := 56) (by kernel_rfl) y56), ⟨sx (qt0 (t := 120) (by kernel_rfl) y120), ⟨sx (qt0 (t := 376) (by kernel_rfl) y376), trivial, trivial, trivial, trivial⟩, trivial, trivial, trivial⟩, trivial, trivial, trivial⟩, ⟨sx (qt0 (t := 72) (by kernel_rfl) y72), trivial, trivial, trivial, trivial⟩⟩, ⟨nx, ⟨sx (qt0 (t := 28) (by kernel_rfl) y28), ⟨sx (qt0 (t := 92) (by kernel_rfl) y92), trivial, trivial, trivial, trivial⟩, trivial, ⟨sx (qt0 (t := 220) (by kernel_rfl) y220), trivial, trivial, trivial, trivial⟩, trivial⟩, ⟨sx (qt0 (t := 44) (by kernel_rfl) y44), ⟨sx (qt0 (t := 108) (by kernel_rfl) y108), trivial, trivial, trivial, trivial⟩, ⟨nx, ⟨sx (qt0 (t := 428) (by kernel_rfl) y428), trivial, trivial, trivial, trivial⟩, trivial, trivial, trivial⟩, ⟨sx (qt0 (t := 236) (by kernel_rfl) y236), trivial, trivial, trivial, trivial⟩, trivial⟩, ⟨sx (qt0 (t := 60) (by kernel_rfl) y60), ⟨sx (qt0 (t := 124) (by kernel_rfl) y124), ⟨sx (qt0 (t := 380) (by kernel_rfl) y380), trivial, trivial, trivial, trivial⟩, trivial, trivial, trivial⟩, ⟨sx (qt0 (t := 188) (by kernel_rfl) y188), trivial, trivial, trivial, trivial⟩, trivial, ⟨sx (qt0 (t := 316) (by kernel_rfl) y316), trivial, trivial, trivial, trivial⟩⟩, ⟨nx, ⟨sx (qt0 (t := 140) (by kernel_rfl) y140), ⟨sx (qt0 (t := 396) (by kernel_rfl) y396), trivial, trivial, trivial, trivial⟩, trivial, trivial, trivial⟩, ⟨sx (qt0 (t := 204) (by kernel_rfl) y204), trivial, trivial, trivial, trivial⟩, ⟨sx (qt0 (t := 268) (by kernel_rfl) y268), trivial, trivial, trivial, trivial⟩, ⟨nx, ⟨sx (qt0 (t := 588) (by kernel_rfl) y588), trivial, trivial, trivial, trivial⟩, trivial, trivial, trivial⟩⟩⟩, ⟨nx, ⟨sx (qt0 (t := 32) (by kernel_rfl) y32), ⟨sx (qt0 (t := 96) (by kernel_rfl) y96), trivial, trivial, trivial, trivial⟩, ⟨nx, trivial, ⟨sx (qt0 (t := 672) (by kernel_rfl) y672), trivial, trivial, trivial, trivial⟩, trivial, trivial⟩, ⟨sx (qt0 (t := 224) (by kernel_rfl) y224), trivial, trivial, trivial, trivial⟩, ⟨sx (qt0 (t := 288) (by kernel_rfl) y288), trivial, trivial, trivial, trivial⟩⟩, ⟨nx, ⟨sx (qt0 (t := 112) (by kernel_rfl) y112), ⟨sx (qt0 (t := 368) (by kernel_rfl) y368), trivial, trivial, trivial, trivial⟩, trivial, trivial, trivial⟩, ⟨sx (qt0 (t := 176) (by kernel_rfl) y176), trivial, trivial, trivial, trivial⟩, ⟨sx (qt0 (t := 240) (by kernel_rfl) y240), trivial, trivial, trivial, trivial⟩, trivial⟩, ⟨sx (qt0 (t := 64) (by kernel_rfl) y64), ⟨nx, ⟨sx (qt0 (t := 384) (by kernel_rfl) y384), trivial, trivial, trivial, trivial⟩, ⟨sx (qt0 (t := 640) (by kernel_rfl) y640), trivial, trivial, trivial, trivial⟩, trivial, trivial⟩, trivial, ⟨sx (qt0 (t := 256) (by kernel_rfl) y256), trivial, trivial, trivial, trivial⟩, ⟨sx (qt0 (t := 320) (by kernel_rfl) y320), trivial, trivial, trivial, trivial⟩⟩, ⟨nx, trivial, ⟨sx (qt0 (t := 208) (by kernel_rfl) y208), trivial, trivial, trivial, trivial⟩, ⟨nx, ⟨sx (qt0 (t := 528) (by kernel_rfl) y528), trivial, trivial, trivial, trivial⟩, ⟨sx (qt0 (t := 784) (by kernel_rfl) y784), trivial, trivial, trivial, trivial⟩, trivial, trivial⟩, trivial⟩⟩, ⟨nx, ⟨sx (qt0 (t := 36) (by kernel_rfl) y36), ⟨sx (qt0 (t := 100) (by kernel_rfl) y100), trivial, trivial, ⟨sx (qt0 (t := 868) (by kernel_rfl) y868), trivial, trivial, trivial, trivial⟩, trivial⟩, ⟨nx, trivial, ⟨sx (qt0 (t := 676) (by kernel_rfl) y676), trivial, trivial, trivial, trivial⟩, trivial, trivial⟩, trivial, ⟨sx (qt0 (t := 292) (by kernel_rfl) y292), trivial, trivial, trivial, trivial⟩⟩, ⟨nx, ⟨sx (qt0 (t := 116) (by kernel_rfl) y116), ⟨sx (qt0 (t := 372) (by kernel_rfl) y372), trivial, trivial, trivial, trivial⟩, trivial, trivial, trivial⟩, trivial, trivial, trivial⟩, ⟨nx, ⟨sx (qt0 (t := 132) (by kernel_rfl) y132), trivial, trivial, trivial, trivial⟩, ⟨sx (qt0 (t := 196) (by kernel_rfl) y196), trivial, trivial, trivial, trivial⟩, trivial, trivial⟩, ⟨sx (qt0 (t := 84) (by kernel_rfl) y84), trivial, trivial, ⟨sx (qt0 (t := 276) (by kernel_rfl) y276), ⟨sx (qt0 (t := 532) (by kernel_rfl) y532), trivial, trivial, trivial, trivial⟩, trivial, trivial, trivial⟩, ⟨nx, ⟨sx (qt0 (t := 596) (by kernel_rfl) y596), trivial, trivial, trivial, trivial⟩, trivial, trivial, trivial⟩⟩⟩⟩⟩
end
end I
end Go.Proofs.YtladkmnfmpojiaaGreatDoor
