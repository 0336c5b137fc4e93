/- Part 9 of a proof: an evaluator of the program, proved sound, and what it answers. -/
import Derived.Test.YtiicdghimmpjnaaGreatA8
set_option linter.all false
namespace Go.Gn
open Go Go.Proofs
set_option maxRecDepth 100000
set_option maxHeartbeats 4000000
noncomputable def cf3 : CF := { nt := 107, res := [(2, none)], body := c3, inl := false, byRef := [], own := false, demC := false, demR := false, live := [], out := [] }
noncomputable def cf4 : CF := { nt := 129, res := [(2, none)], body := c4, inl := false, byRef := [], own := false, demC := false, demR := false, live := [], out := [] }
noncomputable def cf5 : CF := { nt := 138, res := [(4, none)], body := c5, inl := false, byRef := [], own := false, demC := false, demR := false, live := [], out := [] }
noncomputable def cf7 : CF := { nt := 182, res := [(2, none)], body := c7, inl := false, byRef := [], own := false, demC := false, demR := false, live := [], out := [] }
noncomputable def cf12 : CF := { nt := 101, res := [(2, none)], body := c12, inl := false, byRef := [], own := false, demC := false, demR := false, live := [], out := [] }
noncomputable def cf13 : CF := { nt := 105, res := [(2, (some (true, 5))), (3, none), (4, (some (true, 10)))], body := c13, inl := false, byRef := [true], own := false, demC := true, demR := false, live := [2, 4, 5, 6, 7, 8], out := [2, 3, 4, 5, 6, 7] }
noncomputable def cf14 : CF := { nt := 43, res := [(6, (some (true, 5))), (7, (some (true, 10))), (8, none)], body := c14, inl := false, byRef := [], own := false, demC := true, demR := false, live := [], out := [] }
noncomputable def cf15 : CF := { nt := 71, res := [(6, (some (true, 5))), (7, (some (true, 10))), (8, none)], body := c15, inl := false, byRef := [], own := true, demC := false, demR := false, live := [], out := [] }
noncomputable def cf16 : CF := { nt := 38, res := [(4, none)], body := c16, inl := false, byRef := [], own := false, demC := false, demR := false, live := [], out := [] }
noncomputable def cf17 : CF := { nt := 45, res := [(4, none)], body := c17, inl := false, byRef := [], own := false, demC := false, demR := false, live := [], out := [] }
noncomputable def cf18 : CF := { nt := 26, res := [(4, none)], body := c18, inl := false, byRef := [], own := false, demC := false, demR := false, live := [0, 1, 5], out := [4] }
noncomputable def cf19 : CF := { nt := 18, res := [(4, none)], body := c19, inl := false, byRef := [], own := false, demC := false, demR := false, live := [], out := [] }
noncomputable def cf20 : CF := { nt := 61, res := [(2, (some (true, 5))), (3, none), (4, (some (true, 5)))], body := c20, inl := false, byRef := [true], own := false, demC := true, demR := false, live := [2, 4, 5, 6, 7], out := [2, 3, 4, 5, 6] }
noncomputable def cf21 : CF := { nt := 27, res := [(6, (some (true, 5))), (7, (some (true, 10))), (8, none)], body := c21, inl := false, byRef := [], own := false, demC := true, demR := false, live := [], out := [] }
noncomputable def cf22 : CF := { nt := 54, res := [(6, (some (true, 5))), (7, (some (true, 10))), (8, none)], body := c22, inl := false, byRef := [], own := true, demC := false, demR := false, live := [], out := [] }
noncomputable def cf32 : CF := { nt := 32, res := [(2, none)], body := c32, inl := false, byRef := [], own := false, demC := true, demR := false, live := [], out := [] }
noncomputable def cf33 : CF := { nt := 55, res := [(4, (some (true, 2))), (5, none)], body := c33, inl := false, byRef := [], own := true, demC := false, demR := false, live := [], out := [] }
noncomputable def cf34 : CF := { nt := 9, res := [(2, (some (true, 2)))], body := c34, inl := false, byRef := [], own := true, demC := false, demR := false, live := [], out := [] }
noncomputable def cf35 : CF := { nt := 20, res := [(2, none)], body := c35, inl := false, byRef := [], own := true, demC := false, demR := false, live := [], out := [] }
noncomputable def cf47 : CF := { nt := 6, res := [(2, (some (true, 6)))], body := c47, inl := false, byRef := [true], own := false, demC := true, demR := false, live := [], out := [] }
noncomputable def cf48 : CF := { nt := 42, res := [(2, none)], body := c48, inl := false, byRef := [], own := false, demC := false, demR := false, live := [], out := [] }
noncomputable def cf49 : CF := { nt := 165, res := [(2, none)], body := c49, inl := false, byRef := [], own := false, demC := true, demR := false, live := [1, 5], out := [2] }
noncomputable def cf50 : CF := { nt := 46, res := [(2, none)], body := c50, inl := false, byRef := [], own := false, demC := false, demR := false, live := [], out := [] }
noncomputable def cf51 : CF := { nt := 11, res := [(2, none)], body := c51, inl := false, byRef := [true], own := false, demC := true, demR := false, live := [], out := [] }
noncomputable def cf52 : CF := { nt := 51, res := [(2, (some (true, 6)))], body := c52, inl := false, byRef := [true], own := false, demC := true, demR := false, live := [], out := [] }
noncomputable def cf53 : CF := { nt := 99, res := [(4, none)], body := c53, inl := false, byRef := [true], own := false, demC := false, demR := false, live := [], out := [] }
noncomputable def cf54 : CF := { nt := 56, res := [(2, (some (true, 5)))], body := c54, inl := false, byRef := [true], own := false, demC := true, demR := false, live := [], out := [] }
noncomputable def cf55 : CF := { nt := 15, res := [(6, none)], body := c55, inl := false, byRef := [], own := false, demC := true, demR := false, live := [], out := [] }
noncomputable def cf56 : CF := { nt := 76, res := [(2, none)], body := c56, inl := false, byRef := [], own := false, demC := true, demR := false, live := [], out := [] }
noncomputable def cf57 : CF := { nt := 84, res := [(6, (some (true, 5))), (7, (some (true, 10))), (8, none)], body := c57, inl := false, byRef := [true, false, false], own := false, demC := true, demR := false, live := [], out := [] }
noncomputable def cf58 : CF := { nt := 9, res := [(2, (some (true, 5)))], body := c58, inl := false, byRef := [], own := false, demC := true, demR := false, live := [], out := [] }
noncomputable def cf59 : CF := { nt := 69, res := [(2, none)], body := c59, inl := false, byRef := [], own := true, demC := false, demR := false, live := [], out := [] }
noncomputable def cf60 : CF := { nt := 5, res := [(2, none)], body := c60, inl := false, byRef := [], own := true, demC := false, demR := false, live := [], out := [] }
noncomputable def cf61 : CF := { nt := 8, res := [(2, (some (true, 5)))], body := c61, inl := false, byRef := [], own := true, demC := false, demR := false, live := [], out := [] }
noncomputable def cf62 : CF := { nt := 67, res := [(4, none)], body := c62, inl := false, byRef := [true, false], own := true, demC := false, demR := false, live := [], out := [] }
noncomputable def cf63 : CF := { nt := 61, res := [(4, none)], body := c63, inl := false, byRef := [true, false], own := true, demC := false, demR := false, live := [], out := [] }
noncomputable def cf64 : CF := { nt := 39, res := [(2, (some (true, 5)))], body := c64, inl := false, byRef := [true], own := false, demC := true, demR := false, live := [], out := [] }
noncomputable def cf65 : CF := { nt := 17, res := [(2, (some (true, 2)))], body := c65, inl := false, byRef := [], own := false, demC := true, demR := false, live := [], out := [] }
noncomputable def cf66 : CF := { nt := 64, res := [(2, none)], body := c66, inl := false, byRef := [], own := false, demC := true, demR := false, live := [1, 3, 4], out := [1, 2] }
noncomputable def cf67 : CF := { nt := 49, res := [(4, (some (true, 5)))], body := c67, inl := false, byRef := [true], own := false, demC := true, demR := false, live := [0, 3, 4, 5, 6], out := [4, 5] }
noncomputable def cf68 : CF := { nt := 41, res := [(6, (some (true, 5))), (7, (some (true, 10))), (8, none)], body := c68, inl := false, byRef := [true, false, false], own := false, demC := true, demR := false, live := [], out := [] }
noncomputable def cf69 : CF := { nt := 21, res := [(4, none)], body := c69, inl := false, byRef := [], own := true, demC := false, demR := false, live := [], out := [] }
noncomputable def cf73 : CF := { nt := 37, res := [(4, (some (true, 2))), (5, none)], body := c73, inl := false, byRef := [true, false], own := false, demC := true, demR := false, live := [1, 2, 4, 6], out := [2, 4, 5] }
noncomputable def cf74 : CF := { nt := 27, res := [(2, (some (true, 2)))], body := c74, inl := false, byRef := [], own := true, demC := true, demR := false, live := [1, 2, 3, 4], out := [1, 2, 3] }
noncomputable def cf87 : CF := { nt := 4, res := [(0, (some (true, 2)))], body := c87, inl := false, byRef := [], own := false, demC := true, demR := false, live := [], out := [] }
noncomputable def cf88 : CF := { nt := 73, res := [(2, none)], body := c88, inl := false, byRef := [], own := true, demC := false, demR := false, live := [1, 5, 6, 20, 21, 22, 52, 53, 54], out := [1, 2, 5, 6] }
noncomputable def cf89 : CF := { nt := 57, res := [(2, none)], body := c89, inl := false, byRef := [], own := true, demC := false, demR := false, live := [], out := [] }
noncomputable def cf90 : CF := { nt := 13, res := [(6, (some (true, 2))), (7, none)], body := c90, inl := false, byRef := [], own := true, demC := false, demR := false, live := [], out := [] }
noncomputable def cf91 : CF := { nt := 15, res := [(8, (some (true, 2))), (9, none)], body := c91, inl := false, byRef := [], own := true, demC := false, demR := false, live := [], out := [] }
noncomputable def cf92 : CF := { nt := 13, res := [(6, (some (true, 2))), (7, none)], body := c92, inl := false, byRef := [], own := true, demC := false, demR := false, live := [], out := [] }
noncomputable def cf93 : CF := { nt := 11, res := [(4, (some (true, 2))), (5, none)], body := c93, inl := false, byRef := [], own := true, demC := false, demR := false, live := [], out := [] }
noncomputable def cf94 : CF := { nt := 13, res := [(2, (some (true, 2)))], body := c94, inl := false, byRef := [], own := true, demC := false, demR := false, live := [], out := [] }
noncomputable def cf95 : CF := { nt := 5, res := [(2, none)], body := c95, inl := false, byRef := [], own := true, demC := false, demR := false, live := [], out := [] }
noncomputable def cf96 : CF := { nt := 17, res := [(2, none)], body := c96, inl := false, byRef := [], own := true, demC := false, demR := false, live := [], out := [] }
noncomputable def cf99 : CF := { nt := 0, res := [], body := .skip, inl := false, byRef := [false], own := false, demC := false, demR := false, live := [], ext := some (cloneX 5 64 5) }
noncomputable def cf101 : CF := { nt := 34, res := [(4, (some (true, 2))), (5, none)], body := c101, inl := false, byRef := [], own := true, demC := false, demR := false, live := [2, 4, 16, 17, 18], out := [2, 4, 5] }
noncomputable def cf102 : CF := { nt := 69, res := [(2, none)], body := c102, inl := false, byRef := [], own := false, demC := true, demR := false, live := [], out := [] }
noncomputable def cf103 : CF := { nt := 46, res := [(4, (some (true, 2))), (5, none)], body := c103, inl := false, byRef := [true, false], own := false, demC := true, demR := false, live := [], out := [] }
noncomputable def cf104 : CF := { nt := 148, res := [(2, none)], body := c104, inl := false, byRef := [], own := false, demC := false, demR := false, live := [], out := [] }
noncomputable def cf105 : CF := { nt := 9, res := [(4, none)], body := c105, inl := false, byRef := [], own := false, demC := false, demR := false, live := [], out := [] }
noncomputable def cf106 : CF := { nt := 12, res := [(3, none)], body := c106, inl := false, byRef := [], own := false, demC := false, demR := false, live := [], out := [] }
noncomputable def cf107 : CF := { nt := 86, res := [(4, none)], body := c107, inl := false, byRef := [], own := false, demC := false, demR := false, live := [], out := [] }
noncomputable def cf108 : CF := { nt := 27, res := [(4, none)], body := c108, inl := false, byRef := [], own := false, demC := true, demR := false, live := [0, 1, 5], out := [4] }
noncomputable def cf109 : CF := { nt := 151, res := [(4, none)], body := c109, inl := false, byRef := [], own := false, demC := true, demR := false, live := [], out := [] }
noncomputable def cf110 : CF := { nt := 28, res := [(2, none), (3, (some (true, 6)))], body := c110, inl := false, byRef := [true], own := false, demC := true, demR := false, live := [0, 3, 4, 5, 6], out := [2, 3, 4, 5] }
noncomputable def cf111 : CF := { nt := 12, res := [(4, none)], body := c111, inl := false, byRef := [true], own := false, demC := false, demR := false, live := [], out := [] }
noncomputable def cf112 : CF := { nt := 25, res := [(2, none)], body := c112, inl := false, byRef := [true], own := false, demC := true, demR := false, live := [0, 3, 4], out := [0, 2, 3] }
noncomputable def cf113 : CF := { nt := 70, res := [(6, (some (true, 5))), (7, (some (true, 10))), (8, none)], body := c113, inl := false, byRef := [true, false, false], own := false, demC := true, demR := false, live := [], out := [] }
noncomputable def cf114 : CF := { nt := 15, res := [(6, none)], body := c114, inl := false, byRef := [], own := true, demC := false, demR := false, live := [], out := [] }
noncomputable def cf115 : CF := { nt := 69, res := [(2, none)], body := c115, inl := false, byRef := [], own := false, demC := true, demR := false, live := [0, 3, 4], out := [0, 2, 3] }
noncomputable def cf116 : CF := { nt := 27, res := [(2, none)], body := c116, inl := false, byRef := [], own := false, demC := true, demR := false, live := [1, 3], out := [1, 2] }
noncomputable def cf117 : CF := { nt := 24, res := [(4, none)], body := c117, inl := false, byRef := [], own := false, demC := true, demR := false, live := [1, 2, 5, 6], out := [4, 5] }
noncomputable def cf118 : CF := { nt := 43, res := [(4, (some (true, 5))), (5, none)], body := c118, inl := false, byRef := [true, false], own := false, demC := true, demR := false, live := [], out := [] }
noncomputable def cf121 : CF := { nt := 10, res := [(2, (some (true, 2)))], body := c121, inl := false, byRef := [], own := false, demC := true, demR := false, live := [], out := [] }
noncomputable def cf122 : CF := { nt := 6, res := [(2, none)], body := c122, inl := false, byRef := [], own := false, demC := true, demR := false, live := [], out := [] }
noncomputable def cf131 : CF := { nt := 2, res := [(0, none)], body := c131, inl := false, byRef := [], own := false, demC := true, demR := false, live := [], out := [] }
noncomputable def cf132 : CF := { nt := 45, res := [(2, none)], body := c132, inl := false, byRef := [], own := true, demC := false, demR := false, live := [0, 5, 6, 7], out := [0, 2] }
noncomputable def cf133 : CF := { nt := 25, res := [(2, none)], body := c133, inl := false, byRef := [], own := true, demC := false, demR := false, live := [1, 6, 7, 8], out := [1, 2] }
noncomputable def cf134 : CF := { nt := 22, res := [(4, none)], body := c134, inl := false, byRef := [], own := true, demC := false, demR := false, live := [1, 5, 9, 10, 11], out := [4, 5] }
noncomputable def cf135 : CF := { nt := 19, res := [(2, none)], body := c135, inl := false, byRef := [], own := true, demC := false, demR := false, live := [0, 5, 6], out := [0, 2] }
noncomputable def cf136 : CF := { nt := 17, res := [(2, none)], body := c136, inl := false, byRef := [], own := true, demC := false, demR := false, live := [], out := [] }
noncomputable def cf137 : CF := { nt := 19, res := [(4, (some (true, 2))), (5, none)], body := c137, inl := false, byRef := [], own := true, demC := false, demR := false, live := [], out := [] }
noncomputable def cf138 : CF := { nt := 26, res := [(5, none)], body := c138, inl := false, byRef := [true], own := true, demC := false, demR := false, live := [], out := [] }
noncomputable def cf139 : CF := { nt := 9, res := [(4, none)], body := c139, inl := false, byRef := [], own := true, demC := false, demR := false, live := [], out := [] }
noncomputable def cf140 : CF := { nt := 27, res := [], body := c140, inl := false, byRef := [true, true], own := true, demC := false, demR := false, live := [], out := [] }
noncomputable def cf141 : CF := { nt := 62, res := [(6, none)], body := c141, inl := false, byRef := [true], own := true, demC := false, demR := false, live := [], out := [] }
noncomputable def cf142 : CF := { nt := 27, res := [(6, none)], body := c142, inl := false, byRef := [], own := true, demC := false, demR := false, live := [], out := [] }
noncomputable def cf143 : CF := { nt := 25, res := [], body := c143, inl := false, byRef := [true, false], own := true, demC := false, demR := false, live := [], out := [] }
noncomputable def cf144 : CF := { nt := 49, res := [(4, none)], body := c144, inl := false, byRef := [true, false], own := true, demC := false, demR := false, live := [0, 1, 5, 13], out := [4] }
noncomputable def cf145 : CF := { nt := 62, res := [(5, none)], body := c145, inl := false, byRef := [true], own := true, demC := false, demR := false, live := [0, 1, 3, 6, 30, 31, 32], out := [0, 1, 3, 5, 6] }
noncomputable def cf146 : CF := { nt := 0, res := [], body := .skip, inl := false, byRef := [false], own := false, demC := false, demR := false, live := [], ext := some (cloneX 1 8 1) }
noncomputable def cf147 : CF := { nt := 44, res := [(4, none)], body := c147, inl := false, byRef := [true], own := true, demC := false, demR := false, live := [0, 5, 18, 19, 20], out := [0, 4, 5] }
noncomputable def cf148 : CF := { nt := 0, res := [], body := .skip, inl := false, byRef := [true, false, false], own := false, demC := false, demR := false, live := [], ext := some (deleteX 2) }
noncomputable def cf149 : CF := { nt := 3, res := [(0, (some (true, 2)))], body := c149, inl := false, byRef := [], own := true, demC := false, demR := false, live := [], out := [] }
noncomputable def cf150 : CF := { nt := 32, res := [(2, (some (true, 2)))], body := c150, inl := false, byRef := [], own := true, demC := false, demR := false, live := [2, 3, 14, 15], out := [2, 3], shIn := true }
noncomputable def cf151 : CF := { nt := 12, res := [(2, none)], body := c151, inl := false, byRef := [], own := false, demC := true, demR := false, live := [], out := [] }
noncomputable def cf152 : CF := { nt := 19, res := [(2, none)], body := c152, inl := false, byRef := [], own := false, demC := true, demR := false, live := [0, 3], out := [0, 2] }
noncomputable def cf153 : CF := { nt := 29, res := [(6, (some (true, 2))), (7, none)], body := c153, inl := false, byRef := [true, false, false], own := false, demC := true, demR := false, live := [], out := [] }
noncomputable def cf154 : CF := { nt := 92, res := [(8, (some (true, 2))), (9, none)], body := c154, inl := false, byRef := [true, false, false, false], own := false, demC := false, demR := true, live := [], out := [] }
noncomputable def cf155 : CF := { nt := 76, res := [(6, (some (true, 2))), (7, none)], body := c155, inl := false, byRef := [true, false, false], own := false, demC := true, demR := false, live := [3, 6, 9, 10], out := [3, 6, 7, 9] }
noncomputable def cf156 : CF := { nt := 62, res := [(4, (some (true, 2))), (5, none)], body := c156, inl := false, byRef := [true, false], own := false, demC := true, demR := false, live := [2, 4, 6, 7], out := [2, 4, 5, 6] }
noncomputable def cf157 : CF := { nt := 12, res := [(4, none)], body := c157, inl := true, byRef := [], own := false, demC := false, demR := false, live := [], out := [] }
noncomputable def cf158 : CF := { nt := 18, res := [(4, none)], body := c158, inl := false, byRef := [], own := true, demC := false, demR := false, live := [], out := [] }
noncomputable def cf159 : CF := { nt := 19, res := [(4, none)], body := c159, inl := false, byRef := [], own := false, demC := false, demR := false, live := [0, 1, 7, 8], out := [4] }
noncomputable def cf160 : CF := { nt := 102, res := [(4, none)], body := c160, inl := false, byRef := [], own := false, demC := false, demR := false, live := [], out := [] }
noncomputable def cf161 : CF := { nt := 19, res := [(0, (some (true, 6)))], body := c161, inl := false, byRef := [], own := false, demC := true, demR := false, live := [], out := [] }
noncomputable def cf162 : CF := { nt := 109, res := [(4, (some (true, 7)))], body := c162, inl := false, byRef := [true], own := false, demC := true, demR := false, live := [], out := [] }
noncomputable def cf163 : CF := { nt := 105, res := [(4, (some (true, 6)))], body := c163, inl := false, byRef := [true, false], own := false, demC := true, demR := false, live := [], out := [] }
noncomputable def cf164 : CF := { nt := 24, res := [(4, none)], body := c164, inl := false, byRef := [], own := false, demC := true, demR := false, live := [1, 2, 5, 6], out := [4, 5] }
noncomputable def cf170 : CF := { nt := 9, res := [(4, none)], body := c170, inl := false, byRef := [], own := false, demC := false, demR := false, live := [], out := [] }
noncomputable def cf171 : CF := { nt := 9, res := [(3, none)], body := c171, inl := false, byRef := [], own := true, demC := false, demR := false, live := [], out := [] }
noncomputable def cf172 : CF := { nt := 19, res := [(4, none)], body := c172, inl := false, byRef := [], own := false, demC := false, demR := false, live := [0, 1, 7, 8], out := [4] }
noncomputable def cf173 : CF := { nt := 8, res := [(3, none)], body := c173, inl := false, byRef := [], own := true, demC := false, demR := false, live := [], out := [] }
noncomputable def cf174 : CF := { nt := 49, res := [(6, none), (7, none)], body := c174, inl := false, byRef := [], own := false, demC := false, demR := false, live := [0, 1, 2, 8, 9, 10], out := [0, 1, 2, 6, 7, 8, 9] }
noncomputable def cf175 : CF := { nt := 9, res := [(4, none)], body := c175, inl := false, byRef := [], own := true, demC := false, demR := false, live := [], out := [] }
noncomputable def cf176 : CF := { nt := 0, res := [], body := .skip, inl := false, byRef := [false, false], own := false, demC := false, demR := false, live := [], ext := some compareX }
noncomputable def cf177 : CF := { nt := 0, res := [], body := .skip, inl := false, byRef := [true, false, true], own := false, demC := false, demR := false, live := [], ext := some (insertX 40) }
noncomputable def cf178 : CF := { nt := 9, res := [(4, none)], body := c178, inl := false, byRef := [], own := true, demC := false, demR := false, live := [], out := [] }
noncomputable def cf179 : CF := { nt := 28, res := [(2, none)], body := c179, inl := false, byRef := [], own := true, demC := false, demR := false, live := [0, 3, 9, 10], out := [2, 3] }
noncomputable def cf180 : CF := { nt := 9, res := [(2, none)], body := c180, inl := false, byRef := [], own := true, demC := false, demR := false, live := [], out := [] }
noncomputable def cf181 : CF := { nt := 2, res := [(0, none)], body := c181, inl := false, byRef := [], own := true, demC := false, demR := false, live := [], out := [] }
noncomputable def cf182 : CF := { nt := 0, res := [], body := .skip, inl := false, byRef := [false], own := false, demC := false, demR := false, live := [], ext := some (cloneX 2 24 2) }
noncomputable def cf183 : CF := { nt := 0, res := [], body := .skip, inl := false, byRef := [true], own := false, demC := false, demR := false, live := [], ext := some (cloneX 2 40 1) }
noncomputable def cf184 : CF := { nt := 22, res := [(4, none)], body := c184, inl := false, byRef := [], own := false, demC := true, demR := false, live := [1, 2, 5], out := [4] }
noncomputable def cf185 : CF := { nt := 50, res := [(4, (some (true, 2)))], body := c185, inl := false, byRef := [true, true], own := false, demC := true, demR := false, live := [2, 3, 4, 5, 6, 7], out := [2, 3, 4, 5, 6] }
noncomputable def cf186 : CF := { nt := 30, res := [(4, none)], body := c186, inl := false, byRef := [true, false], own := false, demC := true, demR := false, live := [], out := [] }
noncomputable def cf187 : CF := { nt := 42, res := [(4, none), (5, none), (6, none)], body := c187, inl := false, byRef := [true, false], own := false, demC := true, demR := false, live := [], out := [] }
noncomputable def cf188 : CF := { nt := 26, res := [(4, none)], body := c188, inl := false, byRef := [], own := false, demC := false, demR := false, live := [0, 1, 12, 13], out := [4] }
noncomputable def cf189 : CF := { nt := 16, res := [(2, (some (true, 5))), (3, none)], body := c189, inl := false, byRef := [], own := false, demC := true, demR := false, live := [], out := [] }
noncomputable def cf190 : CF := { nt := 43, res := [(6, (some (true, 6)))], body := c190, inl := false, byRef := [true, false, false], own := false, demC := true, demR := false, live := [], out := [] }
noncomputable def cf191 : CF := { nt := 49, res := [(4, (some (true, 6)))], body := c191, inl := false, byRef := [true, false], own := false, demC := true, demR := false, live := [], out := [] }
noncomputable def cf192 : CF := { nt := 52, res := [(4, (some (true, 6)))], body := c192, inl := false, byRef := [true, false], own := false, demC := true, demR := false, live := [], out := [] }
noncomputable def cf193 : CF := { nt := 16, res := [(4, (some (true, 6)))], body := c193, inl := false, byRef := [true, true], own := false, demC := true, demR := false, live := [], out := [] }
noncomputable def cf196 : CF := { nt := 19, res := [(4, none)], body := c196, inl := false, byRef := [], own := false, demC := false, demR := false, live := [0, 1, 7, 8], out := [4] }
noncomputable def cf200 : CF := { nt := 8, res := [(3, none)], body := c200, inl := false, byRef := [], own := true, demC := false, demR := false, live := [], out := [] }
noncomputable def cf201 : CF := { nt := 5, res := [(2, none)], body := c201, inl := false, byRef := [], own := true, demC := false, demR := false, live := [], out := [] }
noncomputable def cf202 : CF := { nt := 39, res := [(4, none), (5, none)], body := c202, inl := false, byRef := [], own := false, demC := true, demR := false, live := [0, 1, 6, 7, 8], out := [4, 5, 7] }
noncomputable def cf203 : CF := { nt := 27, res := [(6, (some (true, 6)))], body := c203, inl := false, byRef := [true, true, false], own := false, demC := true, demR := false, live := [], out := [] }
noncomputable def cf204 : CF := { nt := 88, res := [(4, (some (true, 6)))], body := c204, inl := false, byRef := [true, false], own := false, demC := true, demR := false, live := [], out := [] }
noncomputable def cf207 : CF := { nt := 25, res := [(2, none)], body := c207, inl := false, byRef := [], own := false, demC := true, demR := false, live := [0, 3, 4], out := [2, 3] }
noncomputable def cf208 : CF := { nt := 6, res := [(2, none)], body := c208, inl := false, byRef := [], own := false, demC := true, demR := false, live := [], out := [] }
noncomputable def tab : List (Nat × CF) := [(3, cf3), (4, cf4), (5, cf5), (7, cf7), (12, cf12), (13, cf13), (14, cf14), (15, cf15), (16, cf16), (17, cf17), (18, cf18), (19, cf19), (20, cf20), (21, cf21), (22, cf22), (32, cf32), (33, cf33), (34, cf34), (35, cf35), (47, cf47), (48, cf48), (49, cf49), (50, cf50), (51, cf51), (52, cf52), (53, cf53), (54, cf54), (55, cf55), (56, cf56), (57, cf57), (58, cf58), (59, cf59), (60, cf60), (61, cf61), (62, cf62), (63, cf63), (64, cf64), (65, cf65), (66, cf66), (67, cf67), (68, cf68), (69, cf69), (73, cf73), (74, cf74), (87, cf87), (88, cf88), (89, cf89), (90, cf90), (91, cf91), (92, cf92), (93, cf93), (94, cf94), (95, cf95), (96, cf96), (99, cf99), (101, cf101), (102, cf102), (103, cf103), (104, cf104), (105, cf105), (106, cf106), (107, cf107), (108, cf108), (109, cf109), (110, cf110), (111, cf111), (112, cf112), (113, cf113), (114, cf114), (115, cf115), (116, cf116), (117, cf117), (118, cf118), (121, cf121), (122, cf122), (131, cf131), (132, cf132), (133, cf133), (134, cf134), (135, cf135), (136, cf136), (137, cf137), (138, cf138), (139, cf139), (140, cf140), (141, cf141), (142, cf142), (143, cf143), (144, cf144), (145, cf145), (146, cf146), (147, cf147), (148, cf148), (149, cf149), (150, cf150), (151, cf151), (152, cf152), (153, cf153), (154, cf154), (155, cf155), (156, cf156), (157, cf157), (158, cf158), (159, cf159), (160, cf160), (161, cf161), (162, cf162), (163, cf163), (164, cf164), (170, cf170), (171, cf171), (172, cf172), (173, cf173), (174, cf174), (175, cf175), (176, cf176), (177, cf177), (178, cf178), (179, cf179), (180, cf180), (181, cf181), (182, cf182), (183, cf183), (184, cf184), (185, cf185), (186, cf186), (187, cf187), (188, cf188), (189, cf189), (190, cf190), (191, cf191), (192, cf192), (193, cf193), (196, cf196), (200, cf200), (201, cf201), (202, cf202), (203, cf203), (204, cf204), (207, cf207), (208, cf208)]
noncomputable def G (f : Nat) : Option CF := look tab f
abbrev f_laws_FnHearLess : Nat := 3
abbrev f_laws_FnAskNot : Nat := 4
abbrev f_laws_FnNodeAskTwo : Nat := 5
abbrev f_laws_FnNodeAsk : Nat := 7
abbrev f_laws_FnWorldBad : Nat := 12
abbrev f_spec_DrawNodeHear : Nat := 13
abbrev f_spec_NodeHear : Nat := 14
abbrev f_impl_NodeHear : Nat := 15
abbrev f_laws_lgNode : Nat := 16
abbrev f_laws_lgMsg : Nat := 17
abbrev f_laws_lgOps : Nat := 18
abbrev f_laws_lgBegins : Nat := 19
abbrev f_spec_DrawNodeAsk : Nat := 20
abbrev f_spec_NodeAsk : Nat := 21
abbrev f_impl_NodeAsk : Nat := 22
abbrev f_spec_NodeOk : Nat := 32
abbrev f_impl_OpDo : Nat := 33
abbrev f_impl_NodePool : Nat := 34
abbrev f_impl_NodeOk : Nat := 35
abbrev f_spec_DrawWorldOk : Nat := 47
abbrev f_impl_WorldOk : Nat := 48
abbrev f_spec_WorldOk : Nat := 49
abbrev f_laws_lgSafe : Nat := 50
abbrev f_spec_l6Open : Nat := 51
abbrev f_spec_l72World : Nat := 52
abbrev f_spec_l6Rd_pick : Nat := 53
abbrev f_spec_l71Op : Nat := 54
abbrev f_spec_l6In : Nat := 55
abbrev f_spec_l21Msg : Nat := 56
abbrev f_spec_l21Hear : Nat := 57
abbrev f_spec_l21Copy : Nat := 58
abbrev f_impl_isMsg : Nat := 59
abbrev f_impl_isNode : Nat := 60
abbrev f_impl_Node_clone : Nat := 61
abbrev f_impl_Node_hearCopy : Nat := 62
abbrev f_impl_Node_hearJoin : Nat := 63
abbrev f_spec_l72Node : Nat := 64
abbrev f_spec_NodePool : Nat := 65
abbrev f_spec_PoolOk : Nat := 66
abbrev f_spec_l71Fits : Nat := 67
abbrev f_spec_l21Ask : Nat := 68
abbrev f_impl_Node_canTake : Nat := 69
abbrev f_spec_l13Run : Nat := 73
abbrev f_spec_l11Copy : Nat := 74
abbrev f_spec_PoolNew : Nat := 87
abbrev f_impl_PoolOk : Nat := 88
abbrev f_impl_OpOk : Nat := 89
abbrev f_impl_PoolMake : Nat := 90
abbrev f_impl_PoolWrite : Nat := 91
abbrev f_impl_PoolClone : Nat := 92
abbrev f_impl_PoolGone : Nat := 93
abbrev f_impl_Node_pool : Nat := 94
abbrev f_impl_isTerm : Nat := 95
abbrev f_impl_areOps : Nat := 96
abbrev f_slices_Clone_Op : Nat := 99
abbrev f_impl_doAll : Nat := 101
abbrev f_spec_OpOk : Nat := 102
abbrev f_spec_l12Do : Nat := 103
abbrev f_impl_World_areRight : Nat := 104
abbrev f_slices_ContainsFunc_Msg : Nat := 105
abbrev f_impl_WorldOk_c1 : Nat := 106
abbrev f_impl_World_isCorrect : Nat := 107
abbrev f_spec_l22Begins : Nat := 108
abbrev f_spec_l22True : Nat := 109
abbrev f_spec_l72Play : Nat := 110
abbrev f_spec_l6Rd_of : Nat := 111
abbrev f_spec_l71Text : Nat := 112
abbrev f_spec_l21Copied : Nat := 113
abbrev f_impl_within : Nat := 114
abbrev f_spec_StoreOk : Nat := 115
abbrev f_spec_VolOk : Nat := 116
abbrev f_spec_l11Uses : Nat := 117
abbrev f_spec_l21Add : Nat := 118
abbrev f_spec_l3Copy : Nat := 121
abbrev f_spec_l2Copy : Nat := 122
abbrev f_spec_StoreNew : Nat := 131
abbrev f_impl_StoreOk : Nat := 132
abbrev f_impl_VolOk : Nat := 133
abbrev f_impl_Vol_uses : Nat := 134
abbrev f_impl_TextOk : Nat := 135
abbrev f_impl_isName : Nat := 136
abbrev f_impl_changed : Nat := 137
abbrev f_impl_PoolMake_c1 : Nat := 138
abbrev f_impl_Pool_vol : Nat := 139
abbrev f_impl_Pool_insert : Nat := 140
abbrev f_impl_PoolWrite_c1 : Nat := 141
abbrev f_impl_Pool_hasBlock : Nat := 142
abbrev f_impl_drop : Nat := 143
abbrev f_impl_put : Nat := 144
abbrev f_impl_PoolClone_c1 : Nat := 145
abbrev f_slices_Clone_int : Nat := 146
abbrev f_impl_PoolGone_c1 : Nat := 147
abbrev f_slices_Delete_Vol : Nat := 148
abbrev f_impl_PoolNew : Nat := 149
abbrev f_impl_Pool_clone : Nat := 150
abbrev f_spec_l3Name : Nat := 151
abbrev f_spec_TextOk : Nat := 152
abbrev f_spec_l11Make : Nat := 153
abbrev f_spec_l11Write : Nat := 154
abbrev f_spec_l11Clone : Nat := 155
abbrev f_spec_l11Gone : Nat := 156
abbrev f_impl_World_node : Nat := 157
abbrev f_impl_isPrefix : Nat := 158
abbrev f_slices_IndexFunc_Msg : Nat := 159
abbrev f_impl_World_isCurrent : Nat := 160
abbrev f_spec_WorldNew : Nat := 161
abbrev f_spec_l72Event : Nat := 162
abbrev f_spec_l22Do : Nat := 163
abbrev f_spec_l3Uses : Nat := 164
abbrev f_slices_ContainsFunc_Slot : Nat := 170
abbrev f_impl_StoreOk_c1 : Nat := 171
abbrev f_slices_IndexFunc_Vol : Nat := 172
abbrev f_impl_Pool_vol_c1 : Nat := 173
abbrev f_slices_BinarySearchFunc_Vol : Nat := 174
abbrev f_impl_Pool_insert_c1 : Nat := 175
abbrev f_strings_Compare : Nat := 176
abbrev f_slices_Insert_Vol : Nat := 177
abbrev f_impl_find : Nat := 178
abbrev f_impl_TextPlace : Nat := 179
abbrev f_impl_TextNext : Nat := 180
abbrev f_impl_StoreNew : Nat := 181
abbrev f_slices_Clone_Slot : Nat := 182
abbrev f_slices_Clone_Vol : Nat := 183
abbrev f_spec_l11At : Nat := 184
abbrev f_spec_l11Add : Nat := 185
abbrev f_spec_l2Drop : Nat := 186
abbrev f_spec_l2Put : Nat := 187
abbrev f_slices_Equal_Op : Nat := 188
abbrev f_spec_NodeNew : Nat := 189
abbrev f_spec_l22Ask : Nat := 190
abbrev f_spec_l22Net : Nat := 191
abbrev f_spec_l22Lead : Nat := 192
abbrev f_spec_l22Send : Nat := 193
abbrev f_slices_IndexFunc_Slot : Nat := 196
abbrev f_impl_find_c1 : Nat := 200
abbrev f_impl_isSlot : Nat := 201
abbrev f_spec_l2Find : Nat := 202
abbrev f_spec_l22Done : Nat := 203
abbrev f_spec_l22Bring : Nat := 204
abbrev f_spec_l1Place : Nat := 207
abbrev f_spec_l1Next : Nat := 208
end Go.Gn

