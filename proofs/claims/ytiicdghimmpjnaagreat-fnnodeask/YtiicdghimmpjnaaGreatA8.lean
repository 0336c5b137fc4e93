/- Part 8 of a proof: an evaluator of the program, proved sound, and what it answers. -/
import Derived.Test.YtiicdghimmpjnaaGreatA7
import Derived.Test.YtiicdghimmpjnaaGreatProg
set_option linter.all false
namespace Go.Gn
open Go Go.Proofs
set_option maxRecDepth 100000
set_option maxHeartbeats 4000000
def bodyOf (f : Func) : Code := match f.body with | some c => c | none => .skip
def look : List (Nat × CF) → Nat → Option CF
 | [], _ => none
 | (k, c) :: l, f => match Nat.beq k f with | true => some c | false => look l f
structure CodeOf (P : Program) (f : Func) where
  c : C
  ok : cC P (bodyOf f) = some c
theorem qm1 : Int.negSucc 0 = -1 := rfl
theorem q0 : Int.ofNat 0 = 0 := rfl
theorem q1 : Int.ofNat 1 = 1 := rfl
theorem q2 : Int.ofNat 2 = 2 := rfl
theorem q3 : Int.ofNat 3 = 3 := rfl
theorem q4 : Int.ofNat 4 = 4 := rfl
theorem q5 : Int.ofNat 5 = 5 := rfl
theorem q6 : Int.ofNat 6 = 6 := rfl
theorem q7 : Int.ofNat 7 = 7 := rfl
theorem q8 : Int.ofNat 8 = 8 := rfl
theorem q9 : Int.ofNat 9 = 9 := rfl
theorem q10 : Int.ofNat 10 = 10 := rfl
theorem q12 : Int.ofNat 12 = 12 := rfl
theorem q14 : Int.ofNat 14 = 14 := rfl
theorem q20 : Int.ofNat 20 = 20 := rfl
theorem q23 : Int.ofNat 23 = 23 := rfl
theorem q24 : Int.ofNat 24 = 24 := rfl
theorem q29 : Int.ofNat 29 = 29 := rfl
theorem q30 : Int.ofNat 30 = 30 := rfl
theorem q40 : Int.ofNat 40 = 40 := rfl
theorem q48 : Int.ofNat 48 = 48 := rfl
theorem q53 : Int.ofNat 53 = 53 := rfl
theorem q55 : Int.ofNat 55 = 55 := rfl
theorem q64 : Int.ofNat 64 = 64 := rfl
theorem q65 : Int.ofNat 65 = 65 := rfl
theorem q68 : Int.ofNat 68 = 68 := rfl
theorem q97 : Int.ofNat 97 = 97 := rfl
theorem q99 : Int.ofNat 99 = 99 := rfl
theorem q100 : Int.ofNat 100 = 100 := rfl
theorem q131 : Int.ofNat 131 = 131 := rfl
theorem q1117 : Int.ofNat 1117 = 1117 := rfl
theorem q2000 : Int.ofNat 2000 = 2000 := rfl
theorem q1048576 : Int.ofNat 1048576 = 1048576 := rfl
theorem rdc {P : Program} {f : Func} {c : C} (h : cC P (bodyOf f) = some c := by conv => lhs; reduce; try simp only [qm1, q0, q1, q2, q3, q4, q5, q6, q7, q8, q9, q10, q12, q14, q20, q23, q24, q29, q30, q40, q48, q53, q55, q64, q65, q68, q97, q99, q100, q131, q1117, q2000, q1048576]) : cC P (bodyOf f) = some c := h
noncomputable def loopsC : C → List C
  | .seq a b => loopsC a ++ loopsC b
  | .cond _ a b => loopsC a ++ loopsC b
  | .blk _ c => loopsC c
  | .loop c => c :: loopsC c
  | _ => []
noncomputable def cntL : C → Nat
  | .seq a b => cntL a + cntL b
  | .cond _ a b => cntL a + cntL b
  | .blk _ c => cntL c
  | .loop c => cntL c + 1
  | _ => 0
noncomputable def foldL (vs : List C) : C → Nat → C
  | .seq a b, n => .seq (foldL vs a n) (foldL vs b (n + cntL a))
  | .cond x a b, n => .cond x (foldL vs a n) (foldL vs b (n + cntL a))
  | .blk i c, n => .blk i (foldL vs c n)
  | .loop _, n => .loop (vs.getD n .skip)
  | c, _ => c
noncomputable def bodyL (c : C) (i : Nat) : C := (loopsC c).getD i .skip
structure FoldOf (b : C) (vs : List C) where
  c : C
  ok : foldL vs b 0 = c
theorem rdf {b c : C} {vs : List C} (h : foldL vs b 0 = c := by conv => lhs; reduce; try simp only [qm1, q0, q1, q2, q3, q4, q5, q6, q7, q8, q9, q10, q12, q14, q20, q23, q24, q29, q30, q40, q48, q53, q55, q64, q65, q68, q97, q99, q100, q131, q1117, q2000, q1048576]) : foldL vs b 0 = c := h
noncomputable def x3 : CodeOf Tryz.prog Tryz.f3 := ⟨_, rdc⟩
noncomputable def c3 : C := x3.c
theorem c3_ok : cC Tryz.prog (bodyOf Tryz.f3) = some c3 := x3.ok
noncomputable def x4 : CodeOf Tryz.prog Tryz.f4 := ⟨_, rdc⟩
noncomputable def c4 : C := x4.c
theorem c4_ok : cC Tryz.prog (bodyOf Tryz.f4) = some c4 := x4.ok
noncomputable def c5 : C := (.seq (.reg false [] [] [o 4 (.mv (kb false))]) (.seq (.seq (.reg false [] [] [o 18 (.mv (.t 0)), o 19 (.len (.t 18)), o 20 (.bin .gtr (.t 19) (k 1048576)), o 21 (.mv (.t 20)), og 22 (.mv (.t 1)) 21 false, og 23 (.len (.t 22)) 21 false, og 24 (.bin .gtr (.t 23) (k 1048576)) 21 false, o 25 (.pick (.t 21) (kb true) (.t 24))]) (.cond (.t 25) (.seq (.reg false [] [] [o 4 (.mv (kb true))]) .ret) .skip)) (.seq (.reg false [] [] [o 27 (.mv (.t 0)), o 28 (.call 20 [.t 27]), o 26 (.mv (.t 28)), o 29 (.ext (.t 26) 0), o 30 (.ext (.t 26) 1), o 31 (.ext (.t 26) 2), o 5 (.alloc [(.bool false), (.int .i64 0), (.bool false), (.bool false), .nils]), o 7 (.alloc [(.int .i64 0), (.str ⟨#[]⟩), (.str ⟨#[]⟩), (.int .i64 0), (.str ⟨#[]⟩)]), on (.store 5 (.t 5) (.t 29)), o 6 (.mv (.t 30)), on (.store 5 (.t 7) (.t 31))]) (.seq (.reg false [] [] [o 33 (.load true 5 (.t 5)), o 34 (.mv (.t 6)), o 35 (.load true 5 (.t 7)), o 36 (.call 21 [.t 33, .t 34, .t 35]), o 32 (.mv (.t 36)), o 37 (.ext (.t 32) 0), o 38 (.ext (.t 32) 1), o 39 (.ext (.t 32) 2), o 8 (.alloc [(.bool false), (.int .i64 0), (.bool false), (.bool false), .nils]), o 9 (.alloc [(.int .i64 0), (.int .i64 0), (.int .i64 0), (.int .i64 0), (.int .i64 0), (.str ⟨#[]⟩), (.str ⟨#[]⟩), (.int .i64 0), (.str ⟨#[]⟩), .nils]), on (.store 5 (.t 8) (.t 37)), on (.store 10 (.t 9) (.t 38)), o 10 (.mv (.t 39))]) (.seq (.reg false [] [] [o 41 (.load true 5 (.t 5)), o 42 (.mv (.t 6)), o 43 (.load true 5 (.t 7)), o 44 (.call 22 [.t 41, .t 42, .t 43]), o 40 (.mv (.t 44)), o 45 (.ext (.t 40) 0), o 46 (.ext (.t 40) 1), o 47 (.ext (.t 40) 2), o 11 (.alloc [(.bool false), (.int .i64 0), (.bool false), (.bool false), .nils]), o 12 (.alloc [(.int .i64 0), (.int .i64 0), (.int .i64 0), (.int .i64 0), (.int .i64 0), (.str ⟨#[]⟩), (.str ⟨#[]⟩), (.int .i64 0), (.str ⟨#[]⟩), .nils]), on (.store 5 (.t 11) (.t 45)), on (.store 10 (.t 12) (.t 46)), o 13 (.mv (.t 47))]) (.seq (.seq (.reg false [] [] [o 48 (.mv (.t 13)), o 49 (.mv (.t 10)), o 50 (.beq true (.t 48) (.t 49)), o 51 (.mv (.t 50)), og 52 (.load true 5 (.t 11)) 51 false, og 53 (.load true 5 (.t 8)) 51 false, og 54 (.call 16 [.t 52, .t 53]) 51 false, og 55 (.not (.t 54)) 51 false, o 56 (.pick (.t 51) (kb true) (.t 55)), o 57 (.mv (.t 56)), og 58 (.load true 10 (.t 12)) 57 false, og 59 (.load true 10 (.t 9)) 57 false, og 60 (.call 17 [.t 58, .t 59]) 57 false, og 61 (.not (.t 60)) 57 false, o 62 (.pick (.t 57) (kb true) (.t 61)), o 63 (.mv (.t 62)), og 64 (.mv (.t 13)) 63 false, og 65 (.not (.t 64)) 63 false, o 66 (.pick (.t 63) (kb true) (.t 65))]) (.cond (.t 66) (.seq (.reg false [] [] [o 67 (.mv (.t 13)), o 68 (.mv (.t 10)), o 69 (.beq false (.t 67) (.t 68)), o 70 (.mv (.t 69)), og 71 (.load true 5 (.t 11)) 70 true, og 72 (.load true 5 (.t 8)) 70 true, og 73 (.call 16 [.t 71, .t 72]) 70 true, o 74 (.pick (.t 70) (.t 73) (kb false)), o 75 (.mv (.t 74)), og 76 (.load true 10 (.t 12)) 75 true, og 77 (.load true 10 (.t 9)) 75 true, og 78 (.call 17 [.t 76, .t 77]) 75 true, o 79 (.pick (.t 75) (.t 78) (kb false)), o 4 (.mv (.t 79))]) .ret) .skip)) (.seq (.reg false [] [] [o 80 (.mks 1 4 [(.str ⟨#[]⟩)] [(0, 1, (.c (.str ⟨#[65]⟩))), (1, 1, (.c (.str ⟨#[66]⟩))), (2, 1, (.c (.str ⟨#[67]⟩))), (3, 1, (.c (.str ⟨#[68]⟩)))]), o 81 (.mv (.t 1)), o 82 (.len (.t 81)), o 83 (.bin .rem (.t 82) (k 4)), o 84 (.iadr 1 (.t 80) (.t 83)), o 85 (.load false 1 (.t 84)), o 86 (.build [(.int .i64 0), (.str ⟨#[]⟩), (.str ⟨#[]⟩), (.int .i64 0), (.str ⟨#[]⟩)] [(0, 1, (k 1)), (1, 1, (.t 85)), (3, 1, (k 1))]), o 14 (.alloc [(.int .i64 0), (.str ⟨#[]⟩), (.str ⟨#[]⟩), (.int .i64 0), (.str ⟨#[]⟩)]), on (.store 5 (.t 14) (.t 86))]) (.seq (.reg false [] [] [o 88 (.load true 5 (.t 11)), o 89 (.mv (.t 6)), o 90 (.load true 5 (.t 14)), o 91 (.call 22 [.t 88, .t 89, .t 90]), o 87 (.mv (.t 91)), o 92 (.ext (.t 87) 0), o 93 (.ext (.t 87) 1), o 94 (.ext (.t 87) 2), o 15 (.alloc [(.bool false), (.int .i64 0), (.bool false), (.bool false), .nils]), o 16 (.alloc [(.int .i64 0), (.int .i64 0), (.int .i64 0), (.int .i64 0), (.int .i64 0), (.str ⟨#[]⟩), (.str ⟨#[]⟩), (.int .i64 0), (.str ⟨#[]⟩), .nils]), on (.store 5 (.t 15) (.t 92)), on (.store 10 (.t 16) (.t 93)), o 17 (.mv (.t 94))]) (.seq (.reg true [] [] [o 95 (.mv (.t 17)), od 96 (.not (.t 95)) [0], od 97 (.mv (.t 96)) [1], odg 98 (.load true 5 (.t 15)) 97 true [2], odg 99 (.load true 5 (.t 11)) 97 true [2], odg 100 (.call 16 [.t 98, .t 99]) 97 true [3, 4, 2, 2], od 101 (.pick (.t 97) (.t 100) (kb false)) [2, 5], od 102 (.mv (.t 101)) [6, 5], odg 103 (.fadr 3 (.t 16)) 102 false [7], odg 104 (.load false 1 (.t 103)) 102 false [8, 7], odg 105 (.fadr 3 (.t 12)) 102 false [7], odg 106 (.load false 1 (.t 105)) 102 false [10, 7], odg 107 (.bin .add (.t 106) (k 1)) 102 false [11, 7], odg 108 (.bin .eql (.t 104) (.t 107)) 102 false [9, 12, 7], odg 109 (.mv (.t 108)) 102 false [13, 7, 7], odg 110 (.fadr 4 (.t 16)) 109 true [14], odg 111 (.load true 5 (.t 110)) 109 true [15, 14], odg 112 (.load true 5 (.t 14)) 109 true [14], odg 113 (.eqa false [1, 2, 2, 1, 2] (.t 111) (.t 112)) 109 true [16, 17, 14], odg 114 (.pick (.t 109) (.t 113) (kb false)) 102 false [14, 18, 7], odg 115 (.mv (.t 114)) 102 false [19, 14, 7], odg 116 (.fadr 4 (.t 15)) 115 true [20], odg 117 (.load false 1 (.t 116)) 115 true [21, 20], odg 118 (.fadr 3 (.t 12)) 115 true [20], odg 119 (.load false 1 (.t 118)) 115 true [23, 20], odg 120 (.bin .sub (.t 119) (k 1)) 115 true [24, 20], odg 121 (.iadr 5 (.t 117) (.t 120)) 115 true [22, 25, 20], odg 122 (.load true 5 (.t 121)) 115 true [26, 20], odg 123 (.load true 5 (.t 7)) 115 true [20], odg 124 (.eqa false [1, 2, 2, 1, 2] (.t 122) (.t 123)) 115 true [27, 28, 20], odg 125 (.pick (.t 115) (.t 124) (kb false)) 102 false [20, 29, 7], odg 126 (.mv (.t 125)) 102 false [30, 20, 7], odg 127 (.fadr 4 (.t 15)) 126 true [31], odg 128 (.load false 1 (.t 127)) 126 true [32, 31], odg 129 (.fadr 3 (.t 16)) 126 true [31], odg 130 (.load false 1 (.t 129)) 126 true [34, 31], odg 131 (.bin .sub (.t 130) (k 1)) 126 true [35, 31], odg 132 (.iadr 5 (.t 128) (.t 131)) 126 true [33, 36, 31], odg 133 (.load true 5 (.t 132)) 126 true [37, 31], odg 134 (.load true 5 (.t 14)) 126 true [31], odg 135 (.eqa false [1, 2, 2, 1, 2] (.t 133) (.t 134)) 126 true [38, 39, 31], odg 136 (.pick (.t 126) (.t 135) (kb false)) 102 false [31, 40, 7], od 137 (.pick (.t 102) (kb true) (.t 136)) [7, 41], od 4 (.mv (.t 137)) [42, 31, 0, 1, 2, 3, 4, 5, 6, 7, 8, 9, 10, 11, 12, 13, 14, 15, 16, 17, 18, 19, 20, 21, 22, 23, 24, 25, 26, 27, 28, 29, 30, 31, 32, 33, 34, 35, 36, 37, 38, 39, 40, 41, 42]]) .ret)))))))))
theorem c5_ok : cC Tryz.prog (bodyOf Tryz.f5) = some c5 := by kernel_rfl
noncomputable def c7 : C := (.seq (.reg false [] [] [o 2 (.mv (kb false))]) (.seq (.seq (.reg false [] [] [o 17 (.mv (.t 0)), o 18 (.len (.t 17)), o 19 (.bin .gtr (.t 18) (k 1048576))]) (.cond (.t 19) (.seq (.reg false [] [] [o 2 (.mv (kb true))]) .ret) .skip)) (.seq (.reg false [] [] [o 21 (.mv (.t 0)), o 22 (.call 20 [.t 21]), o 20 (.mv (.t 22)), o 23 (.ext (.t 20) 0), o 24 (.ext (.t 20) 1), o 25 (.ext (.t 20) 2), o 3 (.alloc [(.bool false), (.int .i64 0), (.bool false), (.bool false), .nils]), o 5 (.alloc [(.int .i64 0), (.str ⟨#[]⟩), (.str ⟨#[]⟩), (.int .i64 0), (.str ⟨#[]⟩)]), on (.store 5 (.t 3) (.t 23)), o 4 (.mv (.t 24)), on (.store 5 (.t 5) (.t 25))]) (.seq (.reg false [] [] [o 27 (.load true 5 (.t 3)), o 28 (.mv (.t 4)), o 29 (.load true 5 (.t 5)), o 30 (.call 21 [.t 27, .t 28, .t 29]), o 26 (.mv (.t 30)), o 31 (.ext (.t 26) 0), o 32 (.ext (.t 26) 1), o 33 (.ext (.t 26) 2), o 6 (.alloc [(.bool false), (.int .i64 0), (.bool false), (.bool false), .nils]), o 7 (.alloc [(.int .i64 0), (.int .i64 0), (.int .i64 0), (.int .i64 0), (.int .i64 0), (.str ⟨#[]⟩), (.str ⟨#[]⟩), (.int .i64 0), (.str ⟨#[]⟩), .nils]), on (.store 5 (.t 6) (.t 31)), on (.store 10 (.t 7) (.t 32)), o 8 (.mv (.t 33))]) (.seq (.reg false [] [] [o 35 (.load true 5 (.t 3)), o 36 (.mv (.t 4)), o 37 (.load true 5 (.t 5)), o 38 (.call 22 [.t 35, .t 36, .t 37]), o 34 (.mv (.t 38)), o 39 (.ext (.t 34) 0), o 40 (.ext (.t 34) 1), o 41 (.ext (.t 34) 2), o 9 (.alloc [(.bool false), (.int .i64 0), (.bool false), (.bool false), .nils]), o 10 (.alloc [(.int .i64 0), (.int .i64 0), (.int .i64 0), (.int .i64 0), (.int .i64 0), (.str ⟨#[]⟩), (.str ⟨#[]⟩), (.int .i64 0), (.str ⟨#[]⟩), .nils]), on (.store 5 (.t 9) (.t 39)), on (.store 10 (.t 10) (.t 40)), o 11 (.mv (.t 41))]) (.seq (.seq (.reg false [] [] [o 42 (.mv (.t 11)), o 43 (.mv (.t 8)), o 44 (.beq true (.t 42) (.t 43)), o 45 (.mv (.t 44)), og 46 (.load true 5 (.t 9)) 45 false, og 47 (.load true 5 (.t 6)) 45 false, og 48 (.call 16 [.t 46, .t 47]) 45 false, og 49 (.not (.t 48)) 45 false, o 50 (.pick (.t 45) (kb true) (.t 49)), o 51 (.mv (.t 50)), og 52 (.load true 10 (.t 10)) 51 false, og 53 (.load true 10 (.t 7)) 51 false, og 54 (.call 17 [.t 52, .t 53]) 51 false, og 55 (.not (.t 54)) 51 false, o 56 (.pick (.t 51) (kb true) (.t 55)), o 57 (.mv (.t 56)), og 58 (.load true 5 (.t 3)) 57 false, og 59 (.call 32 [.t 58]) 57 false, og 60 (.not (.t 59)) 57 false, o 61 (.pick (.t 57) (kb true) (.t 60)), o 62 (.mv (.t 61)), og 63 (.mv (.t 4)) 62 false, og 64 (.bin .lss (.t 63) (k 1)) 62 false, o 65 (.pick (.t 62) (kb true) (.t 64)), o 66 (.mv (.t 65)), og 67 (.mv (.t 4)) 66 false, og 68 (.bin .gtr (.t 67) (k 2)) 66 false, o 69 (.pick (.t 66) (kb true) (.t 68))]) (.cond (.t 69) (.seq (.reg false [] [] [o 70 (.mv (.t 11)), o 71 (.mv (.t 8)), o 72 (.beq false (.t 70) (.t 71)), o 73 (.mv (.t 72)), og 74 (.load true 5 (.t 9)) 73 true, og 75 (.load true 5 (.t 6)) 73 true, og 76 (.call 16 [.t 74, .t 75]) 73 true, o 77 (.pick (.t 73) (.t 76) (kb false)), o 78 (.mv (.t 77)), og 79 (.load true 10 (.t 10)) 78 true, og 80 (.load true 10 (.t 7)) 78 true, og 81 (.call 17 [.t 79, .t 80]) 78 true, o 82 (.pick (.t 78) (.t 81) (kb false)), o 2 (.mv (.t 82))]) .ret) .skip)) (.seq (.reg true [(2, 0)] [7] [o 84 (.load true 5 (.t 3)), od 85 (.call 34 [.t 84]) [0], o 86 (.load true 5 (.t 5)), od 87 (.call 33 [.t 85, .t 86]) [1, 2, 1], od 83 (.mv (.t 87)) [3], od 88 (.ext (.t 83) 0) [4], od 89 (.ext (.t 83) 1) [4], o 12 (.alloc [.nils, .nils]), ⟨none, (.store 2 (.t 12) (.t 88)), none, [7, 5, 3, 0, 1, 2, 3, 4, 5, 7]⟩, od 13 (.mv (.t 89)) [6, 8, 0, 1, 2, 3, 4, 5, 6, 7, 8]]) (.seq (.reg false [] [] [o 90 (.fadr 4 (.t 3)), o 91 (.load false 1 (.t 90)), o 92 (.len (.t 91)), o 14 (.mv (.t 92))]) (.seq (.reg false [] [] [o 93 (.fadr 0 (.t 3)), o 94 (.load false 1 (.t 93)), o 95 (.mv (.t 94)), og 96 (.fadr 2 (.t 3)) 95 true, og 97 (.load false 1 (.t 96)) 95 true, o 98 (.pick (.t 95) (.t 97) (kb false)), o 99 (.mv (.t 98)), og 100 (.mv (.t 13)) 99 true, o 101 (.pick (.t 99) (.t 100) (kb false)), o 102 (.mv (.t 101)), og 103 (.mv (.t 14)) 102 true, og 104 (.bin .lss (.t 103) (k 20)) 102 true, o 105 (.pick (.t 102) (.t 104) (kb false)), o 15 (.mv (.t 105))]) (.seq (.seq (.reg false [] [] [o 106 (.mv (.t 11)), o 107 (.not (.t 106)), o 108 (.mv (.t 107)), og 109 (.mv (.t 15)) 108 false, og 110 (.not (.t 109)) 108 false, o 111 (.pick (.t 108) (kb true) (.t 110))]) (.cond (.t 111) (.seq (.reg false [] [] [o 112 (.mv (.t 11)), o 113 (.mv (.t 15)), o 114 (.beq false (.t 112) (.t 113)), o 115 (.mv (.t 114)), og 116 (.load true 5 (.t 9)) 115 true, og 117 (.load true 5 (.t 3)) 115 true, og 118 (.call 16 [.t 116, .t 117]) 115 true, o 119 (.pick (.t 115) (.t 118) (kb false)), o 2 (.mv (.t 119))]) .ret) .skip)) (.seq (.reg false [] [] [o 120 (.load true 5 (.t 9)), o 16 (.alloc [(.bool false), (.int .i64 0), (.bool false), (.bool false), .nils]), on (.store 5 (.t 16) (.t 120))]) (.seq (.reg false [] [] [o 121 (.fadr 4 (.t 9)), o 122 (.load false 1 (.t 121)), o 123 (.mv (.t 14)), o 124 (.ssl 5 (.t 122) none (some (.t 123))), o 125 (.fadr 4 (.t 16)), on (.store 1 (.t 125) (.t 124))]) (.seq (.reg true [] [] [o 126 (.load true 5 (.t 16)), o 127 (.load true 5 (.t 3)), od 128 (.call 16 [.t 126, .t 127]) [0, 1], od 129 (.mv (.t 128)) [2, 2], odg 130 (.fadr 4 (.t 9)) 129 true [3], odg 131 (.load false 1 (.t 130)) 129 true [4, 3], odg 132 (.len (.t 131)) 129 true [5, 3], odg 133 (.mv (.t 14)) 129 true [3], odg 134 (.bin .add (.t 133) (k 1)) 129 true [7, 3], odg 135 (.bin .eql (.t 132) (.t 134)) 129 true [6, 8, 3], od 136 (.pick (.t 129) (.t 135) (kb false)) [3, 9], od 137 (.mv (.t 136)) [10, 3], odg 138 (.fadr 4 (.t 9)) 137 true [11], odg 139 (.load false 1 (.t 138)) 137 true [12, 11], odg 140 (.mv (.t 14)) 137 true [11], odg 141 (.iadr 5 (.t 139) (.t 140)) 137 true [13, 14, 11], odg 142 (.load true 5 (.t 141)) 137 true [15, 11], odg 143 (.load true 5 (.t 5)) 137 true [11], odg 144 (.eqa false [1, 2, 2, 1, 2] (.t 142) (.t 143)) 137 true [16, 17, 11], od 145 (.pick (.t 137) (.t 144) (kb false)) [11, 18], od 146 (.mv (.t 145)) [19, 11], odg 147 (.fadr 0 (.t 10)) 146 true [20], odg 148 (.load false 1 (.t 147)) 146 true [21, 20], odg 149 (.bin .eql (.t 148) (k 1)) 146 true [22, 20], od 150 (.pick (.t 146) (.t 149) (kb false)) [20, 23], od 151 (.mv (.t 150)) [24, 20], odg 152 (.fadr 1 (.t 10)) 151 true [25], odg 153 (.load false 1 (.t 152)) 151 true [26, 25], odg 154 (.mv (.t 4)) 151 true [25], odg 155 (.bin .sub (k 3) (.t 154)) 151 true [28, 25], odg 156 (.bin .eql (.t 153) (.t 155)) 151 true [27, 29, 25], od 157 (.pick (.t 151) (.t 156) (kb false)) [25, 30], od 158 (.mv (.t 157)) [31, 25], odg 159 (.fadr 2 (.t 10)) 158 true [32], odg 160 (.load false 1 (.t 159)) 158 true [33, 32], odg 161 (.fadr 1 (.t 3)) 158 true [32], odg 162 (.load false 1 (.t 161)) 158 true [35, 32], odg 163 (.bin .eql (.t 160) (.t 162)) 158 true [34, 36, 32], od 164 (.pick (.t 158) (.t 163) (kb false)) [32, 37], od 165 (.mv (.t 164)) [38, 32], odg 166 (.fadr 3 (.t 10)) 165 true [39], odg 167 (.load false 1 (.t 166)) 165 true [40, 39], odg 168 (.mv (.t 14)) 165 true [39], odg 169 (.bin .add (.t 168) (k 1)) 165 true [42, 39], odg 170 (.bin .eql (.t 167) (.t 169)) 165 true [41, 43, 39], od 171 (.pick (.t 165) (.t 170) (kb false)) [39, 44], od 172 (.mv (.t 171)) [45, 39], odg 173 (.fadr 4 (.t 10)) 172 true [46], odg 174 (.load true 5 (.t 173)) 172 true [47, 46], odg 175 (.load true 5 (.t 5)) 172 true [46], odg 176 (.eqa false [1, 2, 2, 1, 2] (.t 174) (.t 175)) 172 true [48, 49, 46], od 177 (.pick (.t 172) (.t 176) (kb false)) [46, 50], od 178 (.mv (.t 177)) [51, 46], odg 179 (.load true 5 (.t 9)) 178 true [52], odg 180 (.call 35 [.t 179]) 178 true [53, 52, 52], od 181 (.pick (.t 178) (.t 180) (kb false)) [52, 54], od 2 (.mv (.t 181)) [55, 54, 0, 1, 2, 3, 4, 5, 6, 7, 8, 9, 10, 11, 12, 13, 14, 15, 16, 17, 18, 19, 20, 21, 22, 23, 24, 25, 26, 27, 28, 29, 30, 31, 32, 33, 34, 35, 36, 37, 38, 39, 40, 41, 42, 43, 44, 45, 46, 47, 48, 49, 50, 51, 52, 53, 54, 55]]) .ret)))))))))))))
theorem c7_ok : cC Tryz.prog (bodyOf Tryz.f7) = some c7 := by kernel_rfl
noncomputable def c12 : C := (.seq (.reg false [] [] [o 2 (.mv (kb false))]) (.seq (.seq (.reg false [] [] [o 8 (.mv (.t 0)), o 9 (.len (.t 8)), o 10 (.bin .gtr (.t 9) (k 1048576))]) (.cond (.t 10) (.seq (.reg false [] [] [o 2 (.mv (kb true))]) .ret) .skip)) (.seq (.reg false [] [] [o 11 (.mv (.t 0)), o 12 (.call 47 [.t 11]), o 3 (.alloc [.nils, (.int .i64 0), (.int .i64 0), (.bool false), .nils, .nils]), on (.store 6 (.t 3) (.t 12))]) (.seq (.reg false [] [] [o 13 (.load true 6 (.t 3)), o 14 (.call 48 [.t 13]), o 4 (.mv (.t 14))]) (.seq (.seq (.reg false [] [] [o 15 (.mv (.t 4)), o 16 (.load true 6 (.t 3)), o 17 (.call 49 [.t 16]), o 18 (.beq true (.t 15) (.t 17)), o 19 (.mv (.t 18)), og 20 (.mv (.t 4)) 19 false, og 21 (.not (.t 20)) 19 false, o 22 (.pick (.t 19) (kb true) (.t 21))]) (.cond (.t 22) (.seq (.reg false [] [] [o 23 (.mv (.t 4)), o 24 (.load true 6 (.t 3)), o 25 (.call 49 [.t 24]), o 26 (.beq false (.t 23) (.t 25)), o 2 (.mv (.t 26))]) .ret) .skip)) (.seq (.reg false [] [] [o 27 (.load true 6 (.t 3)), o 5 (.alloc [.nils, (.int .i64 0), (.int .i64 0), (.bool false), .nils, .nils]), on (.store 6 (.t 5) (.t 27))]) (.seq (.reg false [] [] [o 28 (.mks 5 0 [(.int .i64 0), (.str ⟨#[]⟩), (.str ⟨#[]⟩), (.int .i64 0), (.str ⟨#[]⟩)] []), o 29 (.fadr 0 (.t 3)), o 30 (.load false 1 (.t 29)), o 31 (.fadr 2 (.t 3)), o 32 (.load false 1 (.t 31)), o 33 (.bin .sub (.t 32) (k 1)), o 34 (.iadr 5 (.t 30) (.t 33)), o 35 (.fadr 4 (.t 34)), o 36 (.load false 1 (.t 35)), o 37 (.app 5 64 [(.int .i64 0), (.str ⟨#[]⟩), (.str ⟨#[]⟩), (.int .i64 0), (.str ⟨#[]⟩)] (.t 28) (.t 36)), o 38 (.build [(.int .i64 0), (.str ⟨#[]⟩), (.str ⟨#[]⟩), (.int .i64 0), (.str ⟨#[]⟩)] [(0, 1, (k 4)), (1, 1, (.c (.str ⟨#[65]⟩)))]), o 39 (.mks 5 1 [(.int .i64 0), (.str ⟨#[]⟩), (.str ⟨#[]⟩), (.int .i64 0), (.str ⟨#[]⟩)] [(0, 5, (.t 38))]), o 40 (.app 5 64 [(.int .i64 0), (.str ⟨#[]⟩), (.str ⟨#[]⟩), (.int .i64 0), (.str ⟨#[]⟩)] (.t 37) (.t 39)), o 41 (.fadr 5 (.t 5)), on (.store 1 (.t 41) (.t 40))]) (.seq (.reg false [] [] [o 42 (.load true 6 (.t 3)), o 6 (.alloc [.nils, (.int .i64 0), (.int .i64 0), (.bool false), .nils, .nils]), on (.store 6 (.t 6) (.t 42))]) (.seq (.reg false [] [] [o 43 (.mks 5 0 [(.bool false), (.int .i64 0), (.bool false), (.bool false), .nils] []), o 44 (.fadr 0 (.t 3)), o 45 (.load false 1 (.t 44)), o 46 (.app 5 48 [(.bool false), (.int .i64 0), (.bool false), (.bool false), .nils] (.t 43) (.t 45)), o 47 (.fadr 0 (.t 6)), on (.store 1 (.t 47) (.t 46))]) (.seq (.reg false [] [] [o 48 (.fadr 0 (.t 6)), o 49 (.load false 1 (.t 48)), o 50 (.fadr 2 (.t 3)), o 51 (.load false 1 (.t 50)), o 52 (.bin .sub (.t 51) (k 1)), o 53 (.iadr 5 (.t 49) (.t 52)), o 54 (.fadr 2 (.t 53)), on (.store 1 (.t 54) (kb false))]) (.seq (.reg false [] [] [o 55 (.fadr 0 (.t 6)), o 56 (.load false 1 (.t 55)), o 57 (.fadr 2 (.t 3)), o 58 (.load false 1 (.t 57)), o 59 (.bin .sub (.t 58) (k 1)), o 60 (.iadr 5 (.t 56) (.t 59)), o 61 (.fadr 3 (.t 60)), on (.store 1 (.t 61) (kb false))]) (.seq (.reg false [] [] [o 62 (.load true 6 (.t 3)), o 7 (.alloc [.nils, (.int .i64 0), (.int .i64 0), (.bool false), .nils, .nils]), on (.store 6 (.t 7) (.t 62))]) (.seq (.reg false [] [] [o 63 (.mks 5 0 [(.bool false), (.int .i64 0), (.bool false), (.bool false), .nils] []), o 64 (.fadr 0 (.t 3)), o 65 (.load false 1 (.t 64)), o 66 (.app 5 48 [(.bool false), (.int .i64 0), (.bool false), (.bool false), .nils] (.t 63) (.t 65)), o 67 (.fadr 0 (.t 7)), on (.store 1 (.t 67) (.t 66))]) (.seq (.reg false [] [] [o 68 (.fadr 0 (.t 7)), o 69 (.load false 1 (.t 68)), o 70 (.fadr 2 (.t 3)), o 71 (.load false 1 (.t 70)), o 72 (.bin .sub (k 2) (.t 71)), o 73 (.iadr 5 (.t 69) (.t 72)), o 74 (.fadr 2 (.t 73)), on (.store 1 (.t 74) (kb true))]) (.seq (.reg false [] [] [o 75 (.fadr 0 (.t 7)), o 76 (.load false 1 (.t 75)), o 77 (.fadr 2 (.t 3)), o 78 (.load false 1 (.t 77)), o 79 (.bin .sub (k 2) (.t 78)), o 80 (.fadr 1 (.t 3)), o 81 (.load false 1 (.t 80)), o 82 (.iadr 5 (.t 76) (.t 79)), o 83 (.fadr 1 (.t 82)), on (.store 1 (.t 83) (.t 81))]) (.seq (.reg false [] [] [o 84 (.load true 6 (.t 5)), o 85 (.call 48 [.t 84]), o 86 (.not (.t 85)), o 87 (.mv (.t 86)), og 88 (.load true 6 (.t 6)) 87 true, og 89 (.call 48 [.t 88]) 87 true, og 90 (.not (.t 89)) 87 true, o 91 (.pick (.t 87) (.t 90) (kb false)), o 92 (.mv (.t 91)), og 93 (.load true 6 (.t 7)) 92 true, og 94 (.call 48 [.t 93]) 92 true, og 95 (.not (.t 94)) 92 true, o 96 (.pick (.t 92) (.t 95) (kb false)), o 97 (.mv (.t 96)), og 98 (.load true 6 (.t 3)) 97 true, og 99 (.call 50 [.t 98]) 97 true, o 100 (.pick (.t 97) (.t 99) (kb false)), o 2 (.mv (.t 100))]) .ret))))))))))))))))
theorem c12_ok : cC Tryz.prog (bodyOf Tryz.f12) = some c12 := by kernel_rfl
noncomputable def x13 : CodeOf Tryz.prog Tryz.f13 := ⟨_, rdc⟩
noncomputable def y13l0 : FoldOf (bodyL x13.c 1) [] := ⟨_, rdf⟩
noncomputable def c13l0 : C := (y13l0).c
noncomputable def y13l1 (v0 : C) : FoldOf (bodyL x13.c 0) [v0] := ⟨_, rdf⟩
noncomputable def c13l1 : C := (y13l1 c13l0).c
noncomputable def y13 (v0 v1 : C) : FoldOf x13.c [v1, v0] := ⟨_, rdf⟩
noncomputable def c13 : C := (y13 c13l0 c13l1).c
theorem c13_ok : cC Tryz.prog (bodyOf Tryz.f13) = some c13 := by kernel_rfl
noncomputable def x14 : CodeOf Tryz.prog Tryz.f14 := ⟨_, rdc⟩
noncomputable def c14 : C := x14.c
theorem c14_ok : cC Tryz.prog (bodyOf Tryz.f14) = some c14 := x14.ok
noncomputable def x15 : CodeOf Tryz.prog Tryz.f15 := ⟨_, rdc⟩
noncomputable def c15 : C := x15.c
theorem c15_ok : cC Tryz.prog (bodyOf Tryz.f15) = some c15 := x15.ok
noncomputable def x16 : CodeOf Tryz.prog Tryz.f16 := ⟨_, rdc⟩
noncomputable def c16 : C := x16.c
theorem c16_ok : cC Tryz.prog (bodyOf Tryz.f16) = some c16 := x16.ok
noncomputable def c17 : C := (.seq (.reg false [] [] [o 2 (.box (.t 0)), o 3 (.box (.t 1)), o 4 (.mv (kb false))]) (.seq (.reg false [] [] [o 5 (.fadr 0 (.t 2)), o 6 (.load false 1 (.t 5)), o 7 (.fadr 0 (.t 3)), o 8 (.load false 1 (.t 7)), o 9 (.bin .eql (.t 6) (.t 8)), o 10 (.mv (.t 9)), og 11 (.fadr 1 (.t 2)) 10 true, og 12 (.load false 1 (.t 11)) 10 true, og 13 (.fadr 1 (.t 3)) 10 true, og 14 (.load false 1 (.t 13)) 10 true, og 15 (.bin .eql (.t 12) (.t 14)) 10 true, o 16 (.pick (.t 10) (.t 15) (kb false)), o 17 (.mv (.t 16)), og 18 (.fadr 2 (.t 2)) 17 true, og 19 (.load false 1 (.t 18)) 17 true, og 20 (.fadr 2 (.t 3)) 17 true, og 21 (.load false 1 (.t 20)) 17 true, og 22 (.bin .eql (.t 19) (.t 21)) 17 true, o 23 (.pick (.t 17) (.t 22) (kb false)), o 24 (.mv (.t 23)), og 25 (.fadr 3 (.t 2)) 24 true, og 26 (.load false 1 (.t 25)) 24 true, og 27 (.fadr 3 (.t 3)) 24 true, og 28 (.load false 1 (.t 27)) 24 true, og 29 (.bin .eql (.t 26) (.t 28)) 24 true, o 30 (.pick (.t 24) (.t 29) (kb false)), o 31 (.mv (.t 30)), og 32 (.fadr 4 (.t 2)) 31 true, og 33 (.load true 5 (.t 32)) 31 true, og 34 (.fadr 4 (.t 3)) 31 true, og 35 (.load true 5 (.t 34)) 31 true, og 36 (.eqa false [1, 2, 2, 1, 2] (.t 33) (.t 35)) 31 true, o 37 (.pick (.t 31) (.t 36) (kb false)), o 38 (.mv (.t 37)), og 39 (.fadr 9 (.t 2)) 38 true, og 40 (.load false 1 (.t 39)) 38 true, og 41 (.fadr 9 (.t 3)) 38 true, og 42 (.load false 1 (.t 41)) 38 true, og 43 (.call 18 [.t 40, .t 42]) 38 true, o 44 (.pick (.t 38) (.t 43) (kb false)), o 4 (.mv (.t 44))]) .ret))
theorem c17_ok : cC Tryz.prog (bodyOf Tryz.f17) = some c17 := by kernel_rfl
noncomputable def c18l0 : C := (.seq (.seq (.reg false [] [] [o 11 (.mv (.t 5)), o 12 (.mv (.t 0)), o 13 (.len (.t 12)), o 14 (.bin .lss (.t 11) (.t 13))]) (.cond (.t 14) .skip (.exit 0))) (.seq (.blk 1 (.seq (.reg true [] [] [o 17 (.mv (.t 0)), o 18 (.mv (.t 5)), od 19 (.iadr 5 (.t 17) (.t 18)) [0, 1], od 20 (.load true 5 (.t 19)) [2], o 21 (.mv (.t 1)), o 22 (.mv (.t 5)), od 23 (.iadr 5 (.t 21) (.t 22)) [4, 5], od 24 (.load true 5 (.t 23)) [6], od 25 (.eqa true [1, 2, 2, 1, 2] (.t 20) (.t 24)) [3, 7]]) (.cond (.t 25) (.seq (.reg false [] [] [o 4 (.mv (kb false))]) .ret) .skip))) (.reg false [] [] [o 15 (.mv (.t 5)), o 16 (.bin .add (.t 15) (k 1)), o 5 (.mv (.t 16))])))
noncomputable def c18 : C := (.seq (.reg false [] [] [o 4 (.mv (kb false))]) (.seq (.seq (.reg false [] [] [o 6 (.mv (.t 0)), o 7 (.len (.t 6)), o 8 (.mv (.t 1)), o 9 (.len (.t 8)), o 10 (.bin .neq (.t 7) (.t 9))]) (.cond (.t 10) (.seq (.reg false [] [] [o 4 (.mv (kb false))]) .ret) .skip)) (.seq (.seq (.reg false [] [] [o 5 (.mv (k 0))]) (.blk 0 (.loop c18l0))) (.seq (.reg false [] [] [o 4 (.mv (kb true))]) .ret))))
theorem c18_ok : cC Tryz.prog (bodyOf Tryz.f18) = some c18 := by kernel_rfl
noncomputable def x19 : CodeOf Tryz.prog Tryz.f19 := ⟨_, rdc⟩
noncomputable def c19 : C := x19.c
theorem c19_ok : cC Tryz.prog (bodyOf Tryz.f19) = some c19 := x19.ok
noncomputable def x20 : CodeOf Tryz.prog Tryz.f20 := ⟨_, rdc⟩
noncomputable def y20l0 : FoldOf (bodyL x20.c 0) [] := ⟨_, rdf⟩
noncomputable def c20l0 : C := (y20l0).c
noncomputable def y20 (v0 : C) : FoldOf x20.c [v0] := ⟨_, rdf⟩
noncomputable def c20 : C := (y20 c20l0).c
theorem c20_ok : cC Tryz.prog (bodyOf Tryz.f20) = some c20 := by kernel_rfl
noncomputable def x21 : CodeOf Tryz.prog Tryz.f21 := ⟨_, rdc⟩
noncomputable def c21 : C := x21.c
theorem c21_ok : cC Tryz.prog (bodyOf Tryz.f21) = some c21 := x21.ok
noncomputable def x22 : CodeOf Tryz.prog Tryz.f22 := ⟨_, rdc⟩
noncomputable def c22 : C := x22.c
theorem c22_ok : cC Tryz.prog (bodyOf Tryz.f22) = some c22 := x22.ok
noncomputable def x32 : CodeOf Tryz.prog Tryz.f32 := ⟨_, rdc⟩
noncomputable def c32 : C := x32.c
theorem c32_ok : cC Tryz.prog (bodyOf Tryz.f32) = some c32 := x32.ok
noncomputable def x33 : CodeOf Tryz.prog Tryz.f33 := ⟨_, rdc⟩
noncomputable def c33 : C := x33.c
theorem c33_ok : cC Tryz.prog (bodyOf Tryz.f33) = some c33 := x33.ok
noncomputable def x34 : CodeOf Tryz.prog Tryz.f34 := ⟨_, rdc⟩
noncomputable def c34 : C := x34.c
theorem c34_ok : cC Tryz.prog (bodyOf Tryz.f34) = some c34 := x34.ok
noncomputable def x35 : CodeOf Tryz.prog Tryz.f35 := ⟨_, rdc⟩
noncomputable def c35 : C := x35.c
theorem c35_ok : cC Tryz.prog (bodyOf Tryz.f35) = some c35 := x35.ok
noncomputable def x47 : CodeOf Tryz.prog Tryz.f47 := ⟨_, rdc⟩
noncomputable def c47 : C := x47.c
theorem c47_ok : cC Tryz.prog (bodyOf Tryz.f47) = some c47 := x47.ok
noncomputable def x48 : CodeOf Tryz.prog Tryz.f48 := ⟨_, rdc⟩
noncomputable def c48 : C := x48.c
theorem c48_ok : cC Tryz.prog (bodyOf Tryz.f48) = some c48 := x48.ok
noncomputable def x49 : CodeOf Tryz.prog Tryz.f49 := ⟨_, rdc⟩
noncomputable def y49l0 : FoldOf (bodyL x49.c 0) [] := ⟨_, rdf⟩
noncomputable def c49l0 : C := (y49l0).c
noncomputable def y49 (v0 : C) : FoldOf x49.c [v0] := ⟨_, rdf⟩
noncomputable def c49 : C := (y49 c49l0).c
theorem c49_ok : cC Tryz.prog (bodyOf Tryz.f49) = some c49 := by kernel_rfl
noncomputable def x50 : CodeOf Tryz.prog Tryz.f50 := ⟨_, rdc⟩
noncomputable def c50 : C := x50.c
theorem c50_ok : cC Tryz.prog (bodyOf Tryz.f50) = some c50 := x50.ok
noncomputable def x51 : CodeOf Tryz.prog Tryz.f51 := ⟨_, rdc⟩
noncomputable def c51 : C := x51.c
theorem c51_ok : cC Tryz.prog (bodyOf Tryz.f51) = some c51 := x51.ok
noncomputable def x52 : CodeOf Tryz.prog Tryz.f52 := ⟨_, rdc⟩
noncomputable def c52 : C := x52.c
theorem c52_ok : cC Tryz.prog (bodyOf Tryz.f52) = some c52 := x52.ok
noncomputable def x53 : CodeOf Tryz.prog Tryz.f53 := ⟨_, rdc⟩
noncomputable def c53 : C := x53.c
theorem c53_ok : cC Tryz.prog (bodyOf Tryz.f53) = some c53 := x53.ok
noncomputable def c54 : C := (.seq (.reg false [] [] [o 2 (.alloc [(.int .i64 0), (.str ⟨#[]⟩), (.str ⟨#[]⟩), (.int .i64 0), (.str ⟨#[]⟩)])]) (.seq (.reg false [] [] [o 4 (.mv (.t 0)), o 5 (.mks 1 4 [(.str ⟨#[]⟩)] [(0, 1, (.c (.str ⟨#[65]⟩))), (1, 1, (.c (.str ⟨#[66]⟩))), (2, 1, (.c (.str ⟨#[67]⟩))), (3, 1, (.c (.str ⟨#[68]⟩)))]), o 6 (.call 111 [.t 4, .t 5]), o 7 (.mv (.t 0)), o 8 (.call 53 [.t 7, (k 3)]), o 9 (.mv (.t 0)), o 10 (.call 112 [.t 9]), o 11 (.build [(.int .i64 0), (.str ⟨#[]⟩), (.str ⟨#[]⟩), (.int .i64 0), (.str ⟨#[]⟩)] [(0, 1, (k 2)), (1, 1, (.t 6)), (3, 1, (.t 8)), (4, 1, (.t 10))]), o 3 (.alloc [(.int .i64 0), (.str ⟨#[]⟩), (.str ⟨#[]⟩), (.int .i64 0), (.str ⟨#[]⟩)]), on (.store 5 (.t 3) (.t 11))]) (.seq (.seq (.reg false [] [] [o 12 (.mv (.t 0)), o 13 (.call 53 [.t 12, (k 12)])]) (.blk 0 (.seq (.seq (.reg false [] [] [o 15 (.bin .eql (.t 13) (k 0)), o 14 (.mv (.t 15))]) (.cond (.t 14) .skip (.reg false [] [] [o 16 (.bin .eql (.t 13) (k 1)), o 14 (.mv (.t 16))]))) (.cond (.t 14) (.reg true [(1, 4)] [] [o 17 (.fadr 1 (.t 3)), od 18 (.load false 1 (.t 17)) [0], o 19 (.mv (.t 0)), od 20 (.call 53 [.t 19, (k 6)]) [2], od 21 (.bin .add (k 1) (.t 20)) [3], od 22 (.build [(.int .i64 0), (.str ⟨#[]⟩), (.str ⟨#[]⟩), (.int .i64 0), (.str ⟨#[]⟩)] [(0, 1, (k 1)), (1, 1, (.t 18)), (3, 1, (.t 21))]) [1, 4], ⟨none, (.store 5 (.t 3) (.t 22)), none, [5, 3, 0, 1, 2, 3, 4, 5]⟩]) (.seq (.reg false [] [] [o 24 (.bin .eql (.t 13) (k 2)), o 23 (.mv (.t 24))]) (.cond (.t 23) (.reg true [(1, 4), (1, 5)] [] [o 25 (.fadr 1 (.t 3)), od 26 (.load false 1 (.t 25)) [0], o 27 (.mv (.t 0)), o 28 (.mks 1 4 [(.str ⟨#[]⟩)] [(0, 1, (.c (.str ⟨#[65]⟩))), (1, 1, (.c (.str ⟨#[66]⟩))), (2, 1, (.c (.str ⟨#[67]⟩))), (3, 1, (.c (.str ⟨#[68]⟩)))]), od 29 (.call 111 [.t 27, .t 28]) [2, 3], od 30 (.build [(.int .i64 0), (.str ⟨#[]⟩), (.str ⟨#[]⟩), (.int .i64 0), (.str ⟨#[]⟩)] [(0, 1, (k 3)), (1, 1, (.t 26)), (2, 1, (.t 29))]) [1, 4], ⟨none, (.store 5 (.t 3) (.t 30)), none, [5, 4, 0, 1, 2, 3, 4, 5]⟩]) (.seq (.reg false [] [] [o 32 (.bin .eql (.t 13) (k 3)), o 31 (.mv (.t 32))]) (.cond (.t 31) (.reg false [] [] [o 33 (.fadr 1 (.t 3)), o 34 (.load false 1 (.t 33)), o 35 (.build [(.int .i64 0), (.str ⟨#[]⟩), (.str ⟨#[]⟩), (.int .i64 0), (.str ⟨#[]⟩)] [(0, 1, (k 4)), (1, 1, (.t 34))]), on (.store 5 (.t 3) (.t 35))]) .skip)))))))) (.seq (.seq (.reg false [] [] [o 36 (.mv (.t 0)), o 37 (.call 53 [.t 36, (k 30)])]) (.blk 1 (.seq (.reg false [] [] [o 39 (.bin .eql (.t 37) (k 0)), o 38 (.mv (.t 39))]) (.cond (.t 38) (.reg false [] [] [o 40 (.mv (.t 0)), o 41 (.mks 1 3 [(.str ⟨#[]⟩)] [(0, 1, (.c (.str ⟨#[]⟩))), (1, 1, (.c (.str ⟨#[69]⟩))), (2, 1, (.c (.str ⟨#[65, 65]⟩)))]), o 42 (.call 111 [.t 40, .t 41]), o 43 (.fadr 1 (.t 3)), on (.store 1 (.t 43) (.t 42))]) (.seq (.reg false [] [] [o 45 (.bin .eql (.t 37) (k 1)), o 44 (.mv (.t 45))]) (.cond (.t 44) (.reg false [] [] [o 46 (.mv (.t 0)), o 47 (.call 53 [.t 46, (k 9)]), o 48 (.bin .sub (.t 47) (k 1)), o 49 (.fadr 3 (.t 3)), on (.store 1 (.t 49) (.t 48))]) (.seq (.reg false [] [] [o 51 (.bin .eql (.t 37) (k 2)), o 50 (.mv (.t 51))]) (.cond (.t 50) (.reg false [] [] [o 52 (.mv (.t 0)), o 53 (.call 53 [.t 52, (k 6)]), o 54 (.fadr 0 (.t 3)), on (.store 1 (.t 54) (.t 53))]) .skip)))))))) (.seq (.reg false [] [] [o 55 (.load true 5 (.t 3)), on (.store 5 (.t 2) (.t 55))]) .ret)))))
theorem c54_ok : cC Tryz.prog (bodyOf Tryz.f54) = some c54 := by kernel_rfl
noncomputable def x55 : CodeOf Tryz.prog Tryz.f55 := ⟨_, rdc⟩
noncomputable def c55 : C := x55.c
theorem c55_ok : cC Tryz.prog (bodyOf Tryz.f55) = some c55 := x55.ok
noncomputable def c56 : C := (.seq (.reg false [] [] [o 1 (.box (.t 0)), o 2 (.mv (kb false))]) (.seq (.seq (.reg false [] [] [o 5 (.fadr 1 (.t 1)), o 6 (.load false 1 (.t 5)), o 7 (.call 55 [.t 6, (k 1), (k 2)]), o 8 (.not (.t 7)), o 9 (.mv (.t 8)), og 10 (.fadr 2 (.t 1)) 9 false, og 11 (.load false 1 (.t 10)) 9 false, og 12 (.call 55 [.t 11, (k 0), (k 99)]) 9 false, og 13 (.not (.t 12)) 9 false, o 14 (.pick (.t 9) (kb true) (.t 13)), o 15 (.mv (.t 14)), og 16 (.fadr 3 (.t 1)) 15 false, og 17 (.load false 1 (.t 16)) 15 false, og 18 (.call 55 [.t 17, (k 0), (k 20)]) 15 false, og 19 (.not (.t 18)) 15 false, o 20 (.pick (.t 15) (kb true) (.t 19))]) (.cond (.t 20) (.seq (.reg false [] [] [o 2 (.mv (kb false))]) .ret) .skip)) (.seq (.reg true [(2, 0)] [7] [o 22 (.call 87 []), o 23 (.fadr 9 (.t 1)), od 24 (.load false 1 (.t 23)) [1], od 25 (.call 73 [.t 22, .t 24]) [0, 2, 0], od 21 (.mv (.t 25)) [3], od 26 (.ext (.t 21) 0) [4], od 27 (.ext (.t 21) 1) [4], o 3 (.alloc [.nils, .nils]), ⟨none, (.store 2 (.t 3) (.t 26)), none, [7, 5, 3, 0, 1, 2, 3, 4, 5, 7]⟩, od 4 (.mv (.t 27)) [6, 8, 0, 1, 2, 3, 4, 5, 6, 7, 8]]) (.seq (.seq (.reg false [] [] [o 28 (.fadr 0 (.t 1)), o 29 (.load false 1 (.t 28))]) (.blk 0 (.seq (.reg false [] [] [o 31 (.bin .eql (.t 29) (k 1)), o 30 (.mv (.t 31))]) (.cond (.t 30) (.seq (.reg false [] [] [o 32 (.fadr 4 (.t 1)), o 33 (.load true 5 (.t 32)), o 34 (.call 102 [.t 33]), o 35 (.mv (.t 34)), og 36 (.fadr 9 (.t 1)) 35 true, og 37 (.load false 1 (.t 36)) 35 true, og 38 (.len (.t 37)) 35 true, og 39 (.bin .eql (.t 38) (k 0)) 35 true, o 40 (.pick (.t 35) (.t 39) (kb false)), o 41 (.mv (.t 40)), og 42 (.fadr 3 (.t 1)) 41 true, og 43 (.load false 1 (.t 42)) 41 true, og 44 (.bin .gtr (.t 43) (k 0)) 41 true, o 45 (.pick (.t 41) (.t 44) (kb false)), o 2 (.mv (.t 45))]) .ret) (.seq (.seq (.reg false [] [] [o 47 (.bin .eql (.t 29) (k 2)), o 46 (.mv (.t 47))]) (.cond (.t 46) .skip (.reg false [] [] [o 48 (.bin .eql (.t 29) (k 4)), o 46 (.mv (.t 48))]))) (.cond (.t 46) (.seq (.reg false [] [] [o 49 (.fadr 4 (.t 1)), o 50 (.load true 5 (.t 49)), o 51 (.build [(.int .i64 0), (.str ⟨#[]⟩), (.str ⟨#[]⟩), (.int .i64 0), (.str ⟨#[]⟩)] []), o 52 (.eqa false [1, 2, 2, 1, 2] (.t 50) (.t 51)), o 53 (.mv (.t 52)), og 54 (.fadr 9 (.t 1)) 53 true, og 55 (.load false 1 (.t 54)) 53 true, og 56 (.len (.t 55)) 53 true, og 57 (.bin .eql (.t 56) (k 0)) 53 true, o 58 (.pick (.t 53) (.t 57) (kb false)), o 2 (.mv (.t 58))]) .ret) (.seq (.reg false [] [] [o 60 (.bin .eql (.t 29) (k 3)), o 59 (.mv (.t 60))]) (.cond (.t 59) (.seq (.reg false [] [] [o 61 (.fadr 4 (.t 1)), o 62 (.load true 5 (.t 61)), o 63 (.build [(.int .i64 0), (.str ⟨#[]⟩), (.str ⟨#[]⟩), (.int .i64 0), (.str ⟨#[]⟩)] []), o 64 (.eqa false [1, 2, 2, 1, 2] (.t 62) (.t 63)), o 65 (.mv (.t 64)), og 66 (.fadr 9 (.t 1)) 65 true, og 67 (.load false 1 (.t 66)) 65 true, og 68 (.len (.t 67)) 65 true, og 69 (.fadr 3 (.t 1)) 65 true, og 70 (.load false 1 (.t 69)) 65 true, og 71 (.bin .eql (.t 68) (.t 70)) 65 true, o 72 (.pick (.t 65) (.t 71) (kb false)), o 73 (.mv (.t 72)), og 74 (.mv (.t 4)) 73 true, o 75 (.pick (.t 73) (.t 74) (kb false)), o 2 (.mv (.t 75))]) .ret) .skip)))))))) (.seq (.reg false [] [] [o 2 (.mv (kb false))]) .ret)))))
theorem c56_ok : cC Tryz.prog (bodyOf Tryz.f56) = some c56 := by kernel_rfl
noncomputable def x57 : CodeOf Tryz.prog Tryz.f57 := ⟨_, rdc⟩
noncomputable def c57 : C := x57.c
theorem c57_ok : cC Tryz.prog (bodyOf Tryz.f57) = some c57 := x57.ok
noncomputable def x58 : CodeOf Tryz.prog Tryz.f58 := ⟨_, rdc⟩
noncomputable def c58 : C := x58.c
theorem c58_ok : cC Tryz.prog (bodyOf Tryz.f58) = some c58 := x58.ok
noncomputable def c59 : C := (.seq (.reg false [] [] [o 1 (.box (.t 0)), o 2 (.mv (kb false))]) (.seq (.seq (.reg false [] [] [o 3 (.fadr 1 (.t 1)), o 4 (.load false 1 (.t 3)), o 5 (.call 60 [.t 4]), o 6 (.not (.t 5)), o 7 (.mv (.t 6)), og 8 (.fadr 2 (.t 1)) 7 false, og 9 (.load false 1 (.t 8)) 7 false, og 10 (.call 95 [.t 9]) 7 false, og 11 (.not (.t 10)) 7 false, o 12 (.pick (.t 7) (kb true) (.t 11)), o 13 (.mv (.t 12)), og 14 (.fadr 3 (.t 1)) 13 false, og 15 (.load false 1 (.t 14)) 13 false, og 16 (.call 114 [.t 15, (k 0), (k 20)]) 13 false, og 17 (.not (.t 16)) 13 false, o 18 (.pick (.t 13) (kb true) (.t 17))]) (.cond (.t 18) (.seq (.reg false [] [] [o 2 (.mv (kb false))]) .ret) .skip)) (.seq (.seq (.reg false [] [] [o 19 (.fadr 0 (.t 1)), o 20 (.load false 1 (.t 19))]) (.blk 0 (.seq (.reg false [] [] [o 22 (.bin .eql (.t 20) (k 1)), o 21 (.mv (.t 22))]) (.cond (.t 21) (.seq (.reg false [] [] [o 23 (.fadr 4 (.t 1)), o 24 (.load true 5 (.t 23)), o 25 (.call 89 [.t 24]), o 26 (.mv (.t 25)), og 27 (.fadr 3 (.t 1)) 26 true, og 28 (.load false 1 (.t 27)) 26 true, og 29 (.bin .geq (.t 28) (k 1)) 26 true, o 30 (.pick (.t 26) (.t 29) (kb false)), o 31 (.mv (.t 30)), og 32 (.fadr 9 (.t 1)) 31 true, og 33 (.load false 1 (.t 32)) 31 true, og 34 (.len (.t 33)) 31 true, og 35 (.bin .eql (.t 34) (k 0)) 31 true, o 36 (.pick (.t 31) (.t 35) (kb false)), o 2 (.mv (.t 36))]) .ret) (.seq (.seq (.reg false [] [] [o 38 (.bin .eql (.t 20) (k 2)), o 37 (.mv (.t 38))]) (.cond (.t 37) .skip (.reg false [] [] [o 39 (.bin .eql (.t 20) (k 4)), o 37 (.mv (.t 39))]))) (.cond (.t 37) (.seq (.reg false [] [] [o 40 (.fadr 4 (.t 1)), o 41 (.load true 5 (.t 40)), o 42 (.build [(.int .i64 0), (.str ⟨#[]⟩), (.str ⟨#[]⟩), (.int .i64 0), (.str ⟨#[]⟩)] []), o 43 (.eqa false [1, 2, 2, 1, 2] (.t 41) (.t 42)), o 44 (.mv (.t 43)), og 45 (.fadr 9 (.t 1)) 44 true, og 46 (.load false 1 (.t 45)) 44 true, og 47 (.len (.t 46)) 44 true, og 48 (.bin .eql (.t 47) (k 0)) 44 true, o 49 (.pick (.t 44) (.t 48) (kb false)), o 2 (.mv (.t 49))]) .ret) (.seq (.reg false [] [] [o 51 (.bin .eql (.t 20) (k 3)), o 50 (.mv (.t 51))]) (.cond (.t 50) (.seq (.reg false [] [] [o 52 (.fadr 4 (.t 1)), o 53 (.load true 5 (.t 52)), o 54 (.build [(.int .i64 0), (.str ⟨#[]⟩), (.str ⟨#[]⟩), (.int .i64 0), (.str ⟨#[]⟩)] []), o 55 (.eqa false [1, 2, 2, 1, 2] (.t 53) (.t 54)), o 56 (.mv (.t 55)), og 57 (.fadr 9 (.t 1)) 56 true, og 58 (.load false 1 (.t 57)) 56 true, og 59 (.len (.t 58)) 56 true, og 60 (.fadr 3 (.t 1)) 56 true, og 61 (.load false 1 (.t 60)) 56 true, og 62 (.bin .eql (.t 59) (.t 61)) 56 true, o 63 (.pick (.t 56) (.t 62) (kb false)), o 64 (.mv (.t 63)), og 65 (.fadr 9 (.t 1)) 64 true, og 66 (.load false 1 (.t 65)) 64 true, og 67 (.call 96 [.t 66]) 64 true, o 68 (.pick (.t 64) (.t 67) (kb false)), o 2 (.mv (.t 68))]) .ret) .skip)))))))) (.seq (.reg false [] [] [o 2 (.mv (kb false))]) .ret))))
theorem c59_ok : cC Tryz.prog (bodyOf Tryz.f59) = some c59 := by kernel_rfl
noncomputable def x60 : CodeOf Tryz.prog Tryz.f60 := ⟨_, rdc⟩
noncomputable def c60 : C := x60.c
theorem c60_ok : cC Tryz.prog (bodyOf Tryz.f60) = some c60 := x60.ok
noncomputable def x61 : CodeOf Tryz.prog Tryz.f61 := ⟨_, rdc⟩
noncomputable def c61 : C := x61.c
theorem c61_ok : cC Tryz.prog (bodyOf Tryz.f61) = some c61 := x61.ok
noncomputable def c62 : C := (.seq (.reg false [] [] [o 3 (.box (.t 1)), o 4 (.mv (kb false))]) (.seq (.seq (.reg true [] [] [o 5 (.fadr 2 (.t 3)), od 6 (.load false 1 (.t 5)) [0], o 7 (.mv (.t 0)), od 8 (.nilc (.t 7)) [2], od 9 (.fadr 1 (.t 8)) [3], od 10 (.load false 1 (.t 9)) [4], od 11 (.bin .neq (.t 6) (.t 10)) [1, 5], od 12 (.mv (.t 11)) [6], odg 13 (.mv (.t 0)) 12 false [7], odg 14 (.nilc (.t 13)) 12 false [8, 7], odg 15 (.fadr 2 (.t 14)) 12 false [9, 7], odg 16 (.load false 1 (.t 15)) 12 false [10, 7], od 17 (.pick (.t 12) (kb true) (.t 16)) [7, 11]]) (.cond (.t 17) (.seq (.reg false [] [] [o 4 (.mv (kb false))]) .ret) .skip)) (.seq (.seq (.reg true [] [] [o 18 (.mv (.t 0)), od 19 (.nilc (.t 18)) [0], od 20 (.fadr 4 (.t 19)) [1], od 21 (.load false 1 (.t 20)) [2], od 22 (.len (.t 21)) [3], o 23 (.fadr 3 (.t 3)), od 24 (.load false 1 (.t 23)) [5], od 25 (.bin .geq (.t 22) (.t 24)) [4, 6]]) (.cond (.t 25) (.seq (.reg true [] [] [o 26 (.mv (.t 0)), od 27 (.nilc (.t 26)) [0], od 28 (.fadr 4 (.t 27)) [1], od 29 (.load false 1 (.t 28)) [2], o 30 (.fadr 3 (.t 3)), od 31 (.load false 1 (.t 30)) [4], od 32 (.bin .sub (.t 31) (k 1)) [5], od 33 (.iadr 5 (.t 29) (.t 32)) [3, 6], od 34 (.load true 5 (.t 33)) [7], o 35 (.fadr 4 (.t 3)), od 36 (.load true 5 (.t 35)) [9], od 37 (.eqa false [1, 2, 2, 1, 2] (.t 34) (.t 36)) [8, 10], od 4 (.mv (.t 37)) [11, 0, 1, 2, 3, 4, 5, 6, 7, 8, 9, 10, 11]]) .ret) .skip)) (.seq (.seq (.reg true [] [] [o 38 (.mv (.t 0)), od 39 (.nilc (.t 38)) [0], od 40 (.fadr 4 (.t 39)) [1], od 41 (.load false 1 (.t 40)) [2], od 42 (.len (.t 41)) [3], o 43 (.fadr 3 (.t 3)), od 44 (.load false 1 (.t 43)) [5], od 45 (.bin .sub (.t 44) (k 1)) [6], od 46 (.bin .neq (.t 42) (.t 45)) [4, 7], od 47 (.mv (.t 46)) [8], odg 48 (.mv (.t 0)) 47 false [9], odg 49 (.nilc (.t 48)) 47 false [10, 9], odg 50 (.load true 5 (.t 49)) 47 false [11, 9], odg 51 (.fadr 4 (.t 3)) 47 false [9], odg 52 (.load true 5 (.t 51)) 47 false [13, 9], odg 53 (.call 69 [.t 50, .t 52]) 47 false [12, 14, 9, 9], odg 54 (.not (.t 53)) 47 false [15, 9], od 55 (.pick (.t 47) (kb true) (.t 54)) [9, 16]]) (.cond (.t 55) (.seq (.reg false [] [] [o 4 (.mv (kb false))]) .ret) .skip)) (.seq (.reg true [(4, 8)] [] [o 56 (.mv (.t 0)), o 57 (.mv (.t 0)), od 58 (.nilc (.t 57)) [1], od 59 (.fadr 4 (.t 58)) [2], od 60 (.load false 1 (.t 59)) [3], o 61 (.fadr 4 (.t 3)), od 62 (.load true 5 (.t 61)) [5], od 63 (.mks 5 1 [(.int .i64 0), (.str ⟨#[]⟩), (.str ⟨#[]⟩), (.int .i64 0), (.str ⟨#[]⟩)] [(0, 5, (.t 62))]) [6], od 64 (.app 5 64 [(.int .i64 0), (.str ⟨#[]⟩), (.str ⟨#[]⟩), (.int .i64 0), (.str ⟨#[]⟩)] (.t 60) (.t 63)) [4, 7], od 65 (.nilc (.t 56)) [0, 0, 1, 2, 3, 4, 5, 6, 7, 8], od 66 (.fadr 4 (.t 65)) [9, 0, 1, 2, 3, 4, 5, 6, 7, 8], ⟨none, (.store 1 (.t 66) (.t 64)), none, [10, 8, 8, 0, 1, 2, 3, 4, 5, 6, 7, 8]⟩]) (.seq (.reg false [] [] [o 4 (.mv (kb true))]) .ret))))))
theorem c62_ok : cC Tryz.prog (bodyOf Tryz.f62) = some c62 := by kernel_rfl
noncomputable def x63 : CodeOf Tryz.prog Tryz.f63 := ⟨_, rdc⟩
noncomputable def c63 : C := x63.c
theorem c63_ok : cC Tryz.prog (bodyOf Tryz.f63) = some c63 := x63.ok
noncomputable def x64 : CodeOf Tryz.prog Tryz.f64 := ⟨_, rdc⟩
noncomputable def c64 : C := x64.c
theorem c64_ok : cC Tryz.prog (bodyOf Tryz.f64) = some c64 := x64.ok
noncomputable def x65 : CodeOf Tryz.prog Tryz.f65 := ⟨_, rdc⟩
noncomputable def c65 : C := x65.c
theorem c65_ok : cC Tryz.prog (bodyOf Tryz.f65) = some c65 := x65.ok
noncomputable def x66 : CodeOf Tryz.prog Tryz.f66 := ⟨_, rdc⟩
noncomputable def y66l0 : FoldOf (bodyL x66.c 1) [] := ⟨_, rdf⟩
noncomputable def c66l0 : C := (y66l0).c
noncomputable def y66l1 (v0 : C) : FoldOf (bodyL x66.c 0) [v0] := ⟨_, rdf⟩
noncomputable def c66l1 : C := (y66l1 c66l0).c
noncomputable def y66 (v0 v1 : C) : FoldOf x66.c [v1, v0] := ⟨_, rdf⟩
noncomputable def c66 : C := (y66 c66l0 c66l1).c
theorem c66_ok : cC Tryz.prog (bodyOf Tryz.f66) = some c66 := by kernel_rfl
noncomputable def x67 : CodeOf Tryz.prog Tryz.f67 := ⟨_, rdc⟩
noncomputable def y67l0 : FoldOf (bodyL x67.c 0) [] := ⟨_, rdf⟩
noncomputable def c67l0 : C := (y67l0).c
noncomputable def y67 (v0 : C) : FoldOf x67.c [v0] := ⟨_, rdf⟩
noncomputable def c67 : C := (y67 c67l0).c
theorem c67_ok : cC Tryz.prog (bodyOf Tryz.f67) = some c67 := by kernel_rfl
noncomputable def x68 : CodeOf Tryz.prog Tryz.f68 := ⟨_, rdc⟩
noncomputable def c68 : C := x68.c
theorem c68_ok : cC Tryz.prog (bodyOf Tryz.f68) = some c68 := x68.ok
noncomputable def x69 : CodeOf Tryz.prog Tryz.f69 := ⟨_, rdc⟩
noncomputable def c69 : C := x69.c
theorem c69_ok : cC Tryz.prog (bodyOf Tryz.f69) = some c69 := x69.ok
noncomputable def x73 : CodeOf Tryz.prog Tryz.f73 := ⟨_, rdc⟩
noncomputable def y73l0 : FoldOf (bodyL x73.c 0) [] := ⟨_, rdf⟩
noncomputable def c73l0 : C := (y73l0).c
noncomputable def y73 (v0 : C) : FoldOf x73.c [v0] := ⟨_, rdf⟩
noncomputable def c73 : C := (y73 c73l0).c
theorem c73_ok : cC Tryz.prog (bodyOf Tryz.f73) = some c73 := by kernel_rfl
noncomputable def x74 : CodeOf Tryz.prog Tryz.f74 := ⟨_, rdc⟩
noncomputable def y74l0 : FoldOf (bodyL x74.c 0) [] := ⟨_, rdf⟩
noncomputable def c74l0 : C := (y74l0).c
noncomputable def y74 (v0 : C) : FoldOf x74.c [v0] := ⟨_, rdf⟩
noncomputable def c74 : C := (y74 c74l0).c
theorem c74_ok : cC Tryz.prog (bodyOf Tryz.f74) = some c74 := by kernel_rfl
noncomputable def x87 : CodeOf Tryz.prog Tryz.f87 := ⟨_, rdc⟩
noncomputable def c87 : C := x87.c
theorem c87_ok : cC Tryz.prog (bodyOf Tryz.f87) = some c87 := x87.ok
noncomputable def x88 : CodeOf Tryz.prog Tryz.f88 := ⟨_, rdc⟩
noncomputable def y88l0 : FoldOf (bodyL x88.c 2) [] := ⟨_, rdf⟩
noncomputable def c88l0 : C := (y88l0).c
noncomputable def y88l1 (v0 : C) : FoldOf (bodyL x88.c 1) [v0] := ⟨_, rdf⟩
noncomputable def c88l1 : C := (y88l1 c88l0).c
noncomputable def y88l2 (v0 v1 : C) : FoldOf (bodyL x88.c 0) [v1, v0] := ⟨_, rdf⟩
noncomputable def c88l2 : C := (y88l2 c88l0 c88l1).c
noncomputable def y88 (v0 v1 v2 : C) : FoldOf x88.c [v2, v1, v0] := ⟨_, rdf⟩
noncomputable def c88 : C := (y88 c88l0 c88l1 c88l2).c
theorem c88_ok : cC Tryz.prog (bodyOf Tryz.f88) = some c88 := by kernel_rfl
noncomputable def c89 : C := (.seq (.reg false [] [] [o 1 (.box (.t 0)), o 2 (.mv (kb false))]) (.seq (.reg false [] [] [o 5 (.fadr 0 (.t 1)), o 6 (.load false 1 (.t 5)), o 7 (.fadr 1 (.t 1)), o 8 (.load false 1 (.t 7)), o 9 (.build [(.int .i64 0), (.str ⟨#[]⟩), (.str ⟨#[]⟩), (.int .i64 0), (.str ⟨#[]⟩)] [(0, 1, (.t 6)), (1, 1, (.t 8))]), o 3 (.alloc [(.int .i64 0), (.str ⟨#[]⟩), (.str ⟨#[]⟩), (.int .i64 0), (.str ⟨#[]⟩)]), on (.store 5 (.t 3) (.t 9))]) (.seq (.reg false [] [] [o 4 (.mv (kb false))]) (.seq (.seq (.reg false [] [] [o 10 (.fadr 0 (.t 1)), o 11 (.load false 1 (.t 10))]) (.blk 0 (.seq (.reg false [] [] [o 13 (.bin .eql (.t 11) (k 1)), o 12 (.mv (.t 13))]) (.cond (.t 12) (.seq (.reg false [] [] [o 14 (.fadr 3 (.t 1)), o 15 (.load false 1 (.t 14)), o 16 (.fadr 3 (.t 3)), on (.store 1 (.t 16) (.t 15))]) (.reg false [] [] [o 17 (.fadr 3 (.t 1)), o 18 (.load false 1 (.t 17)), o 19 (.call 114 [.t 18, (k 1), (k 6)]), o 4 (.mv (.t 19))])) (.seq (.reg false [] [] [o 21 (.bin .eql (.t 11) (k 2)), o 20 (.mv (.t 21))]) (.cond (.t 20) (.seq (.reg true [(3, 6)] [] [o 22 (.fadr 3 (.t 1)), od 23 (.load false 1 (.t 22)) [0], o 24 (.fadr 4 (.t 1)), od 25 (.load false 1 (.t 24)) [2], od 26 (.fadr 3 (.t 3)) [0, 1], ⟨none, (.store 1 (.t 26) (.t 23)), none, [4, 1, 0, 1]⟩, od 27 (.fadr 4 (.t 3)) [0, 1, 2, 3, 4, 5], ⟨none, (.store 1 (.t 27) (.t 25)), none, [6, 3, 5, 0, 1, 2, 3, 4, 5]⟩]) (.reg false [] [] [o 28 (.fadr 3 (.t 1)), o 29 (.load false 1 (.t 28)), o 30 (.call 114 [.t 29, (k 0), (k 5)]), o 31 (.mv (.t 30)), og 32 (.fadr 4 (.t 1)) 31 true, og 33 (.load false 1 (.t 32)) 31 true, og 34 (.call 135 [.t 33]) 31 true, o 35 (.pick (.t 31) (.t 34) (kb false)), o 4 (.mv (.t 35))])) (.seq (.reg false [] [] [o 37 (.bin .eql (.t 11) (k 3)), o 36 (.mv (.t 37))]) (.cond (.t 36) (.seq (.reg false [] [] [o 38 (.fadr 2 (.t 1)), o 39 (.load false 1 (.t 38)), o 40 (.fadr 2 (.t 3)), on (.store 1 (.t 40) (.t 39))]) (.reg false [] [] [o 41 (.fadr 2 (.t 1)), o 42 (.load false 1 (.t 41)), o 43 (.call 136 [.t 42]), o 4 (.mv (.t 43))])) (.seq (.reg false [] [] [o 45 (.bin .eql (.t 11) (k 4)), o 44 (.mv (.t 45))]) (.cond (.t 44) (.reg false [] [] [o 4 (.mv (kb true))]) .skip)))))))))) (.seq (.reg false [] [] [o 46 (.mv (.t 4)), o 47 (.mv (.t 46)), og 48 (.fadr 1 (.t 1)) 47 true, og 49 (.load false 1 (.t 48)) 47 true, og 50 (.call 136 [.t 49]) 47 true, o 51 (.pick (.t 47) (.t 50) (kb false)), o 52 (.mv (.t 51)), og 53 (.load true 5 (.t 1)) 52 true, og 54 (.load true 5 (.t 3)) 52 true, og 55 (.eqa false [1, 2, 2, 1, 2] (.t 53) (.t 54)) 52 true, o 56 (.pick (.t 52) (.t 55) (kb false)), o 2 (.mv (.t 56))]) .ret)))))
theorem c89_ok : cC Tryz.prog (bodyOf Tryz.f89) = some c89 := by kernel_rfl
noncomputable def x90 : CodeOf Tryz.prog Tryz.f90 := ⟨_, rdc⟩
noncomputable def c90 : C := x90.c
theorem c90_ok : cC Tryz.prog (bodyOf Tryz.f90) = some c90 := x90.ok
noncomputable def x91 : CodeOf Tryz.prog Tryz.f91 := ⟨_, rdc⟩
noncomputable def c91 : C := x91.c
theorem c91_ok : cC Tryz.prog (bodyOf Tryz.f91) = some c91 := x91.ok
noncomputable def x92 : CodeOf Tryz.prog Tryz.f92 := ⟨_, rdc⟩
noncomputable def c92 : C := x92.c
theorem c92_ok : cC Tryz.prog (bodyOf Tryz.f92) = some c92 := x92.ok
noncomputable def x93 : CodeOf Tryz.prog Tryz.f93 := ⟨_, rdc⟩
noncomputable def c93 : C := x93.c
theorem c93_ok : cC Tryz.prog (bodyOf Tryz.f93) = some c93 := x93.ok
noncomputable def x94 : CodeOf Tryz.prog Tryz.f94 := ⟨_, rdc⟩
noncomputable def c94 : C := x94.c
theorem c94_ok : cC Tryz.prog (bodyOf Tryz.f94) = some c94 := x94.ok
noncomputable def x95 : CodeOf Tryz.prog Tryz.f95 := ⟨_, rdc⟩
noncomputable def c95 : C := x95.c
theorem c95_ok : cC Tryz.prog (bodyOf Tryz.f95) = some c95 := x95.ok
noncomputable def x96 : CodeOf Tryz.prog Tryz.f96 := ⟨_, rdc⟩
noncomputable def c96 : C := x96.c
theorem c96_ok : cC Tryz.prog (bodyOf Tryz.f96) = some c96 := x96.ok
noncomputable def x101 : CodeOf Tryz.prog Tryz.f101 := ⟨_, rdc⟩
noncomputable def y101l0 : FoldOf (bodyL x101.c 0) [] := ⟨_, rdf⟩
noncomputable def c101l0 : C := (y101l0).c
noncomputable def y101 (v0 : C) : FoldOf x101.c [v0] := ⟨_, rdf⟩
noncomputable def c101 : C := (y101 c101l0).c
theorem c101_ok : cC Tryz.prog (bodyOf Tryz.f101) = some c101 := by kernel_rfl
noncomputable def x102 : CodeOf Tryz.prog Tryz.f102 := ⟨_, rdc⟩
noncomputable def c102 : C := x102.c
theorem c102_ok : cC Tryz.prog (bodyOf Tryz.f102) = some c102 := x102.ok
noncomputable def x103 : CodeOf Tryz.prog Tryz.f103 := ⟨_, rdc⟩
noncomputable def c103 : C := x103.c
theorem c103_ok : cC Tryz.prog (bodyOf Tryz.f103) = some c103 := x103.ok
end Go.Gn

namespace Go.Gn
open Go Go.Proofs
set_option maxRecDepth 100000
set_option maxHeartbeats 4000000
noncomputable def x104 : CodeOf Tryz.prog Tryz.f104 := ⟨_, rdc⟩
noncomputable def c104 : C := x104.c
theorem c104_ok : cC Tryz.prog (bodyOf Tryz.f104) = some c104 := x104.ok
noncomputable def x105 : CodeOf Tryz.prog Tryz.f105 := ⟨_, rdc⟩
noncomputable def c105 : C := x105.c
theorem c105_ok : cC Tryz.prog (bodyOf Tryz.f105) = some c105 := x105.ok
noncomputable def x106 : CodeOf Tryz.prog Tryz.f106 := ⟨_, rdc⟩
noncomputable def c106 : C := x106.c
theorem c106_ok : cC Tryz.prog (bodyOf Tryz.f106) = some c106 := x106.ok
noncomputable def x107 : CodeOf Tryz.prog Tryz.f107 := ⟨_, rdc⟩
noncomputable def c107 : C := x107.c
theorem c107_ok : cC Tryz.prog (bodyOf Tryz.f107) = some c107 := x107.ok
noncomputable def c108l0 : C := (.seq (.seq (.reg false [] [] [o 6 (.mv (.t 5)), o 7 (.mv (.t 0)), o 8 (.len (.t 7)), o 9 (.bin .lss (.t 6) (.t 8))]) (.cond (.t 9) .skip (.exit 0))) (.seq (.blk 1 (.seq (.reg true [] [] [o 12 (.mv (.t 5)), o 13 (.mv (.t 1)), od 14 (.len (.t 13)) [1], od 15 (.bin .geq (.t 12) (.t 14)) [0, 2], od 16 (.mv (.t 15)) [3], odg 17 (.mv (.t 0)) 16 false [4], odg 18 (.mv (.t 5)) 16 false [4], odg 19 (.iadr 5 (.t 17) (.t 18)) 16 false [5, 6, 4], odg 20 (.load true 5 (.t 19)) 16 false [7, 4], odg 21 (.mv (.t 1)) 16 false [4], odg 22 (.mv (.t 5)) 16 false [4], odg 23 (.iadr 5 (.t 21) (.t 22)) 16 false [9, 10, 4], odg 24 (.load true 5 (.t 23)) 16 false [11, 4], odg 25 (.eqa true [1, 2, 2, 1, 2] (.t 20) (.t 24)) 16 false [8, 12, 4], od 26 (.pick (.t 16) (kb true) (.t 25)) [4, 13]]) (.cond (.t 26) (.seq (.reg false [] [] [o 4 (.mv (kb false))]) .ret) .skip))) (.reg false [] [] [o 10 (.mv (.t 5)), o 11 (.bin .add (.t 10) (k 1)), o 5 (.mv (.t 11))])))
noncomputable def c108 : C := (.seq (.reg false [] [] [o 4 (.mv (kb false))]) (.seq (.seq (.reg false [] [] [o 5 (.mv (k 0))]) (.blk 0 (.loop c108l0))) (.seq (.reg false [] [] [o 4 (.mv (kb true))]) .ret)))
theorem c108_ok : cC Tryz.prog (bodyOf Tryz.f108) = some c108 := by kernel_rfl
noncomputable def c109 : C := (.seq (.reg false [] [] [o 2 (.box (.t 0)), o 3 (.box (.t 1)), o 4 (.mv (kb false))]) (.seq (.reg false [] [] [o 8 (.fadr 0 (.t 2)), o 9 (.load false 1 (.t 8)), o 10 (.fadr 2 (.t 2)), o 11 (.load false 1 (.t 10)), o 12 (.bin .sub (.t 11) (k 1)), o 13 (.iadr 5 (.t 9) (.t 12)), o 14 (.load true 5 (.t 13)), o 5 (.alloc [(.bool false), (.int .i64 0), (.bool false), (.bool false), .nils]), on (.store 5 (.t 5) (.t 14))]) (.seq (.reg false [] [] [o 15 (.fadr 0 (.t 2)), o 16 (.load false 1 (.t 15)), o 17 (.fadr 2 (.t 2)), o 18 (.load false 1 (.t 17)), o 19 (.bin .sub (k 2) (.t 18)), o 20 (.iadr 5 (.t 16) (.t 19)), o 21 (.load true 5 (.t 20)), o 6 (.alloc [(.bool false), (.int .i64 0), (.bool false), (.bool false), .nils]), on (.store 5 (.t 6) (.t 21))]) (.seq (.reg false [] [] [o 22 (.fadr 0 (.t 3)), o 23 (.load false 1 (.t 22)), o 24 (.bin .eql (.t 23) (k 2)), o 25 (.mv (.t 24)), og 26 (.fadr 0 (.t 3)) 25 false, og 27 (.load false 1 (.t 26)) 25 false, og 28 (.bin .eql (.t 27) (k 4)) 25 false, o 29 (.pick (.t 25) (kb true) (.t 28)), o 7 (.mv (.t 29))]) (.seq (.blk 0 (.seq (.reg false [] [] [o 31 (.fadr 2 (.t 3)), o 32 (.load false 1 (.t 31)), o 33 (.fadr 1 (.t 2)), o 34 (.load false 1 (.t 33)), o 35 (.bin .gtr (.t 32) (.t 34)), o 30 (.mv (.t 35))]) (.cond (.t 30) (.seq (.reg false [] [] [o 4 (.mv (kb false))]) .ret) (.seq (.reg false [] [] [o 37 (.fadr 2 (.t 3)), o 38 (.load false 1 (.t 37)), o 39 (.fadr 1 (.t 2)), o 40 (.load false 1 (.t 39)), o 41 (.bin .lss (.t 38) (.t 40)), o 42 (.mv (.t 41)), og 43 (.mv (.t 7)) 42 true, o 44 (.pick (.t 42) (.t 43) (kb false)), o 45 (.mv (.t 44)), og 46 (.fadr 1 (.t 3)) 45 true, og 47 (.load false 1 (.t 46)) 45 true, og 48 (.fadr 2 (.t 2)) 45 true, og 49 (.load false 1 (.t 48)) 45 true, og 50 (.bin .sub (k 3) (.t 49)) 45 true, og 51 (.bin .eql (.t 47) (.t 50)) 45 true, o 52 (.pick (.t 45) (.t 51) (kb false)), o 53 (.mv (.t 52)), og 54 (.fadr 2 (.t 6)) 53 true, og 55 (.load false 1 (.t 54)) 53 true, o 56 (.pick (.t 53) (.t 55) (kb false)), o 57 (.mv (.t 56)), og 58 (.fadr 1 (.t 6)) 57 true, og 59 (.load false 1 (.t 58)) 57 true, og 60 (.fadr 2 (.t 3)) 57 true, og 61 (.load false 1 (.t 60)) 57 true, og 62 (.bin .eql (.t 59) (.t 61)) 57 true, o 63 (.pick (.t 57) (.t 62) (kb false)), o 36 (.mv (.t 63))]) (.cond (.t 36) (.seq (.reg true [] [] [o 64 (.fadr 3 (.t 3)), od 65 (.load false 1 (.t 64)) [0], o 66 (.fadr 4 (.t 6)), od 67 (.load false 1 (.t 66)) [2], od 68 (.len (.t 67)) [3], od 69 (.bin .leq (.t 65) (.t 68)) [1, 4], od 70 (.mv (.t 69)) [5], odg 71 (.fadr 4 (.t 6)) 70 true [6], odg 72 (.load false 1 (.t 71)) 70 true [7, 6], odg 73 (.fadr 3 (.t 3)) 70 true [6], odg 74 (.load false 1 (.t 73)) 70 true [9, 6], odg 75 (.ssl 5 (.t 72) none (some (.t 74))) 70 true [8, 10, 6], odg 76 (.fadr 5 (.t 2)) 70 true [6], odg 77 (.load false 1 (.t 76)) 70 true [12, 6], odg 78 (.call 108 [.t 75, .t 77]) 70 true [11, 13, 6, 6], od 79 (.pick (.t 70) (.t 78) (kb false)) [6, 14], od 4 (.mv (.t 79)) [15, 14, 0, 1, 2, 3, 4, 5, 6, 7, 8, 9, 10, 11, 12, 13, 14, 15]]) .ret) (.seq (.reg false [] [] [o 81 (.fadr 2 (.t 3)), o 82 (.load false 1 (.t 81)), o 83 (.fadr 1 (.t 2)), o 84 (.load false 1 (.t 83)), o 85 (.bin .lss (.t 82) (.t 84)), o 80 (.mv (.t 85))]) (.cond (.t 80) (.seq (.reg false [] [] [o 4 (.mv (kb true))]) .ret) (.seq (.reg false [] [] [o 87 (.mv (.t 7)), o 86 (.mv (.t 87))]) (.cond (.t 86) (.seq (.reg false [] [] [o 88 (.fadr 1 (.t 3)), o 89 (.load false 1 (.t 88)), o 90 (.fadr 2 (.t 2)), o 91 (.load false 1 (.t 90)), o 92 (.bin .eql (.t 89) (.t 91)), o 93 (.mv (.t 92)), og 94 (.fadr 1 (.t 6)) 93 true, og 95 (.load false 1 (.t 94)) 93 true, og 96 (.fadr 1 (.t 2)) 93 true, og 97 (.load false 1 (.t 96)) 93 true, og 98 (.bin .eql (.t 95) (.t 97)) 93 true, o 99 (.pick (.t 93) (.t 98) (kb false)), o 100 (.mv (.t 99)), og 101 (.fadr 3 (.t 3)) 100 true, og 102 (.load false 1 (.t 101)) 100 true, og 103 (.fadr 4 (.t 6)) 100 true, og 104 (.load false 1 (.t 103)) 100 true, og 105 (.len (.t 104)) 100 true, og 106 (.bin .leq (.t 102) (.t 105)) 100 true, o 107 (.pick (.t 100) (.t 106) (kb false)), o 4 (.mv (.t 107))]) .ret) (.seq (.reg false [] [] [o 109 (.fadr 0 (.t 3)), o 110 (.load false 1 (.t 109)), o 111 (.bin .eql (.t 110) (k 1)), o 108 (.mv (.t 111))]) (.cond (.t 108) (.seq (.reg true [] [] [o 112 (.fadr 1 (.t 3)), od 113 (.load false 1 (.t 112)) [0], o 114 (.fadr 2 (.t 2)), od 115 (.load false 1 (.t 114)) [2], od 116 (.bin .sub (k 3) (.t 115)) [3], od 117 (.bin .eql (.t 113) (.t 116)) [1, 4], od 118 (.mv (.t 117)) [5], odg 119 (.fadr 3 (.t 3)) 118 true [6], odg 120 (.load false 1 (.t 119)) 118 true [7, 6], odg 121 (.fadr 4 (.t 5)) 118 true [6], odg 122 (.load false 1 (.t 121)) 118 true [9, 6], odg 123 (.len (.t 122)) 118 true [10, 6], odg 124 (.bin .leq (.t 120) (.t 123)) 118 true [8, 11, 6], od 125 (.pick (.t 118) (.t 124) (kb false)) [6, 12], od 126 (.mv (.t 125)) [13, 6], odg 127 (.fadr 4 (.t 5)) 126 true [14], odg 128 (.load false 1 (.t 127)) 126 true [15, 14], odg 129 (.fadr 3 (.t 3)) 126 true [14], odg 130 (.load false 1 (.t 129)) 126 true [17, 14], odg 131 (.bin .sub (.t 130) (k 1)) 126 true [18, 14], odg 132 (.iadr 5 (.t 128) (.t 131)) 126 true [16, 19, 14], odg 133 (.load true 5 (.t 132)) 126 true [20, 14], odg 134 (.fadr 4 (.t 3)) 126 true [14], odg 135 (.load true 5 (.t 134)) 126 true [22, 14], odg 136 (.eqa false [1, 2, 2, 1, 2] (.t 133) (.t 135)) 126 true [21, 23, 14], od 137 (.pick (.t 126) (.t 136) (kb false)) [14, 24], od 4 (.mv (.t 137)) [25, 14, 0, 1, 2, 3, 4, 5, 6, 7, 8, 9, 10, 11, 12, 13, 14, 15, 16, 17, 18, 19, 20, 21, 22, 23, 24, 25]]) .ret) .skip))))))))))) (.seq (.reg false [] [] [o 138 (.fadr 1 (.t 3)), o 139 (.load false 1 (.t 138)), o 140 (.fadr 2 (.t 2)), o 141 (.load false 1 (.t 140)), o 142 (.bin .sub (k 3) (.t 141)), o 143 (.bin .eql (.t 139) (.t 142)), o 144 (.mv (.t 143)), og 145 (.fadr 9 (.t 3)) 144 true, og 146 (.load false 1 (.t 145)) 144 true, og 147 (.fadr 4 (.t 5)) 144 true, og 148 (.load false 1 (.t 147)) 144 true, og 149 (.call 108 [.t 146, .t 148]) 144 true, o 150 (.pick (.t 144) (.t 149) (kb false)), o 4 (.mv (.t 150))]) .ret))))))
theorem c109_ok : cC Tryz.prog (bodyOf Tryz.f109) = some c109 := by kernel_rfl
noncomputable def x110 : CodeOf Tryz.prog Tryz.f110 := ⟨_, rdc⟩
noncomputable def y110l0 : FoldOf (bodyL x110.c 0) [] := ⟨_, rdf⟩
noncomputable def c110l0 : C := (y110l0).c
noncomputable def y110 (v0 : C) : FoldOf x110.c [v0] := ⟨_, rdf⟩
noncomputable def c110 : C := (y110 c110l0).c
theorem c110_ok : cC Tryz.prog (bodyOf Tryz.f110) = some c110 := by kernel_rfl
noncomputable def x111 : CodeOf Tryz.prog Tryz.f111 := ⟨_, rdc⟩
noncomputable def c111 : C := x111.c
theorem c111_ok : cC Tryz.prog (bodyOf Tryz.f111) = some c111 := x111.ok
noncomputable def c112l0 : C := (.seq (.seq (.reg false [] [] [o 7 (.mv (.t 4)), o 8 (.bin .gtr (.t 7) (k 0))]) (.cond (.t 8) .skip (.exit 0))) (.seq (.blk 1 (.reg false [] [] [o 11 (.mv (.t 3)), o 12 (.mv (.t 0)), o 13 (.mks 1 5 [(.str ⟨#[]⟩)] [(0, 1, (.c (.str ⟨#[97]⟩))), (1, 1, (.c (.str ⟨#[98]⟩))), (2, 1, (.c (.str ⟨#[99]⟩))), (3, 1, (.c (.str ⟨#[100]⟩))), (4, 1, (.c (.str ⟨#[97]⟩)))]), o 14 (.call 111 [.t 12, .t 13]), o 15 (.bin .add (.t 11) (.t 14)), o 3 (.mv (.t 15))])) (.reg false [] [] [o 9 (.mv (.t 4)), o 10 (.bin .sub (.t 9) (k 1)), o 4 (.mv (.t 10))])))
noncomputable def c112 : C := (.seq (.reg false [] [] [o 2 (.mv (.c (.str ⟨#[]⟩)))]) (.seq (.reg false [] [] [o 3 (.mv (.c (.str ⟨#[]⟩)))]) (.seq (.seq (.reg false [] [] [o 5 (.mv (.t 0)), o 6 (.call 53 [.t 5, (k 4)]), o 4 (.mv (.t 6))]) (.blk 0 (.loop c112l0))) (.seq (.seq (.reg false [] [] [o 16 (.mv (.t 0)), o 17 (.call 53 [.t 16, (k 30)]), o 18 (.bin .eql (.t 17) (k 0))]) (.cond (.t 18) (.seq (.reg false [] [] [o 19 (.mv (.t 3)), o 20 (.mv (.t 0)), o 21 (.mks 1 4 [(.str ⟨#[]⟩)] [(0, 1, (.c (.str ⟨#[101]⟩))), (1, 1, (.c (.str ⟨#[97, 97, 97, 97]⟩))), (2, 1, (.c (.str ⟨#[32]⟩))), (3, 1, (.c (.str ⟨#[65]⟩)))]), o 22 (.call 111 [.t 20, .t 21]), o 23 (.bin .add (.t 19) (.t 22)), o 2 (.mv (.t 23))]) .ret) .skip)) (.seq (.reg false [] [] [o 24 (.mv (.t 3)), o 2 (.mv (.t 24))]) .ret)))))
theorem c112_ok : cC Tryz.prog (bodyOf Tryz.f112) = some c112 := by kernel_rfl
noncomputable def c113 : C := (.seq (.reg false [] [] [o 3 (.box (.t 0)), o 5 (.box (.t 2)), o 6 (.alloc [(.bool false), (.int .i64 0), (.bool false), (.bool false), .nils]), o 7 (.alloc [(.int .i64 0), (.int .i64 0), (.int .i64 0), (.int .i64 0), (.int .i64 0), (.str ⟨#[]⟩), (.str ⟨#[]⟩), (.int .i64 0), (.str ⟨#[]⟩), .nils]), o 8 (.mv (kb false))]) (.seq (.reg false [] [] [o 12 (.mv (.t 1)), o 13 (.bin .sub (k 3) (.t 12)), o 14 (.fadr 1 (.t 3)), o 15 (.load false 1 (.t 14)), o 16 (.fadr 3 (.t 5)), o 17 (.load false 1 (.t 16)), o 18 (.build [(.int .i64 0), (.int .i64 0), (.int .i64 0), (.int .i64 0), (.int .i64 0), (.str ⟨#[]⟩), (.str ⟨#[]⟩), (.int .i64 0), (.str ⟨#[]⟩), .nils] [(0, 1, (k 2)), (1, 1, (.t 13)), (2, 1, (.t 15)), (3, 1, (.t 17))]), o 9 (.alloc [(.int .i64 0), (.int .i64 0), (.int .i64 0), (.int .i64 0), (.int .i64 0), (.str ⟨#[]⟩), (.str ⟨#[]⟩), (.int .i64 0), (.str ⟨#[]⟩), .nils]), on (.store 10 (.t 9) (.t 18))]) (.seq (.blk 0 (.seq (.reg false [] [] [o 20 (.fadr 2 (.t 5)), o 21 (.load false 1 (.t 20)), o 22 (.fadr 1 (.t 3)), o 23 (.load false 1 (.t 22)), o 24 (.bin .neq (.t 21) (.t 23)), o 25 (.mv (.t 24)), og 26 (.fadr 2 (.t 3)) 25 false, og 27 (.load false 1 (.t 26)) 25 false, o 28 (.pick (.t 25) (kb true) (.t 27)), o 19 (.mv (.t 28))]) (.cond (.t 19) (.seq (.reg false [] [] [o 29 (.load true 5 (.t 3)), o 30 (.build [(.int .i64 0), (.int .i64 0), (.int .i64 0), (.int .i64 0), (.int .i64 0), (.str ⟨#[]⟩), (.str ⟨#[]⟩), (.int .i64 0), (.str ⟨#[]⟩), .nils] []), on (.store 5 (.t 6) (.t 29)), on (.store 10 (.t 7) (.t 30)), o 8 (.mv (kb false))]) .ret) (.seq (.reg false [] [] [o 32 (.fadr 3 (.t 5)), o 33 (.load false 1 (.t 32)), o 34 (.fadr 4 (.t 3)), o 35 (.load false 1 (.t 34)), o 36 (.len (.t 35)), o 37 (.bin .leq (.t 33) (.t 36)), o 31 (.mv (.t 37))]) (.cond (.t 31) (.seq (.reg true [(1, 13), (3, 13), (3, 14), (5, 13), (5, 14), (7, 13), (7, 14), (8, 13), (8, 14), (10, 13), (10, 14)] [] [o 38 (.load true 5 (.t 3)), o 39 (.load true 10 (.t 9)), o 40 (.fadr 4 (.t 3)), od 41 (.load false 1 (.t 40)) [2], o 42 (.fadr 3 (.t 5)), od 43 (.load false 1 (.t 42)) [4], od 44 (.bin .sub (.t 43) (k 1)) [5], od 45 (.iadr 5 (.t 41) (.t 44)) [3, 6], od 46 (.load true 5 (.t 45)) [7], o 47 (.fadr 4 (.t 5)), od 48 (.load true 5 (.t 47)) [9], od 49 (.eqa false [1, 2, 2, 1, 2] (.t 46) (.t 48)) [8, 10], ⟨none, (.store 5 (.t 6) (.t 38)), none, [0, 0]⟩, ⟨none, (.store 10 (.t 7) (.t 39)), none, [1, 12, 0, 1, 12]⟩, od 8 (.mv (.t 49)) [11, 13, 0, 1, 2, 3, 4, 5, 6, 7, 8, 9, 10, 11, 12, 13]]) .ret) (.seq (.reg false [] [] [o 51 (.fadr 3 (.t 5)), o 52 (.load false 1 (.t 51)), o 53 (.fadr 4 (.t 3)), o 54 (.load false 1 (.t 53)), o 55 (.len (.t 54)), o 56 (.bin .add (.t 55) (k 1)), o 57 (.bin .gtr (.t 52) (.t 56)), o 50 (.mv (.t 57))]) (.cond (.t 50) (.seq (.reg false [] [] [o 58 (.load true 5 (.t 3)), o 59 (.build [(.int .i64 0), (.int .i64 0), (.int .i64 0), (.int .i64 0), (.int .i64 0), (.str ⟨#[]⟩), (.str ⟨#[]⟩), (.int .i64 0), (.str ⟨#[]⟩), .nils] []), on (.store 5 (.t 6) (.t 58)), on (.store 10 (.t 7) (.t 59)), o 8 (.mv (kb false))]) .ret) .skip))))))) (.seq (.reg false [] [] [o 61 (.load true 5 (.t 3)), o 62 (.fadr 4 (.t 5)), o 63 (.load true 5 (.t 62)), o 64 (.call 118 [.t 61, .t 63]), o 60 (.mv (.t 64)), o 65 (.ext (.t 60) 0), o 66 (.ext (.t 60) 1), o 10 (.alloc [(.bool false), (.int .i64 0), (.bool false), (.bool false), .nils]), on (.store 5 (.t 10) (.t 65)), o 11 (.mv (.t 66))]) (.seq (.reg true [(1, 4)] [] [o 67 (.load true 5 (.t 10)), o 68 (.load true 10 (.t 9)), o 69 (.mv (.t 11)), ⟨none, (.store 5 (.t 6) (.t 67)), none, [0, 0]⟩, ⟨none, (.store 10 (.t 7) (.t 68)), none, [1, 3, 0, 1, 3]⟩, od 8 (.mv (.t 69)) [2, 4, 0, 1, 2, 3, 4]]) .ret)))))
theorem c113_ok : cC Tryz.prog (bodyOf Tryz.f113) = some c113 := by kernel_rfl
noncomputable def x114 : CodeOf Tryz.prog Tryz.f114 := ⟨_, rdc⟩
noncomputable def c114 : C := x114.c
theorem c114_ok : cC Tryz.prog (bodyOf Tryz.f114) = some c114 := x114.ok
noncomputable def x115 : CodeOf Tryz.prog Tryz.f115 := ⟨_, rdc⟩
noncomputable def y115l0 : FoldOf (bodyL x115.c 1) [] := ⟨_, rdf⟩
noncomputable def c115l0 : C := (y115l0).c
noncomputable def y115l1 (v0 : C) : FoldOf (bodyL x115.c 0) [v0] := ⟨_, rdf⟩
noncomputable def c115l1 : C := (y115l1 c115l0).c
noncomputable def y115 (v0 v1 : C) : FoldOf x115.c [v1, v0] := ⟨_, rdf⟩
noncomputable def c115 : C := (y115 c115l0 c115l1).c
theorem c115_ok : cC Tryz.prog (bodyOf Tryz.f115) = some c115 := by kernel_rfl
noncomputable def x116 : CodeOf Tryz.prog Tryz.f116 := ⟨_, rdc⟩
noncomputable def y116l0 : FoldOf (bodyL x116.c 0) [] := ⟨_, rdf⟩
noncomputable def c116l0 : C := (y116l0).c
noncomputable def y116 (v0 : C) : FoldOf x116.c [v0] := ⟨_, rdf⟩
noncomputable def c116 : C := (y116 c116l0).c
theorem c116_ok : cC Tryz.prog (bodyOf Tryz.f116) = some c116 := by kernel_rfl
noncomputable def x117 : CodeOf Tryz.prog Tryz.f117 := ⟨_, rdc⟩
noncomputable def y117l0 : FoldOf (bodyL x117.c 0) [] := ⟨_, rdf⟩
noncomputable def c117l0 : C := (y117l0).c
noncomputable def y117 (v0 : C) : FoldOf x117.c [v0] := ⟨_, rdf⟩
noncomputable def c117 : C := (y117 c117l0).c
theorem c117_ok : cC Tryz.prog (bodyOf Tryz.f117) = some c117 := by kernel_rfl
noncomputable def x118 : CodeOf Tryz.prog Tryz.f118 := ⟨_, rdc⟩
noncomputable def c118 : C := x118.c
theorem c118_ok : cC Tryz.prog (bodyOf Tryz.f118) = some c118 := x118.ok
noncomputable def x121 : CodeOf Tryz.prog Tryz.f121 := ⟨_, rdc⟩
noncomputable def c121 : C := x121.c
theorem c121_ok : cC Tryz.prog (bodyOf Tryz.f121) = some c121 := x121.ok
noncomputable def x122 : CodeOf Tryz.prog Tryz.f122 := ⟨_, rdc⟩
noncomputable def c122 : C := x122.c
theorem c122_ok : cC Tryz.prog (bodyOf Tryz.f122) = some c122 := x122.ok
noncomputable def x131 : CodeOf Tryz.prog Tryz.f131 := ⟨_, rdc⟩
noncomputable def c131 : C := x131.c
theorem c131_ok : cC Tryz.prog (bodyOf Tryz.f131) = some c131 := x131.ok
noncomputable def x132 : CodeOf Tryz.prog Tryz.f132 := ⟨_, rdc⟩
noncomputable def y132l0 : FoldOf (bodyL x132.c 0) [] := ⟨_, rdf⟩
noncomputable def c132l0 : C := (y132l0).c
noncomputable def y132 (v0 : C) : FoldOf x132.c [v0] := ⟨_, rdf⟩
noncomputable def c132 : C := (y132 c132l0).c
theorem c132_ok : cC Tryz.prog (bodyOf Tryz.f132) = some c132 := by kernel_rfl
noncomputable def x133 : CodeOf Tryz.prog Tryz.f133 := ⟨_, rdc⟩
noncomputable def y133l0 : FoldOf (bodyL x133.c 0) [] := ⟨_, rdf⟩
noncomputable def c133l0 : C := (y133l0).c
noncomputable def y133 (v0 : C) : FoldOf x133.c [v0] := ⟨_, rdf⟩
noncomputable def c133 : C := (y133 c133l0).c
theorem c133_ok : cC Tryz.prog (bodyOf Tryz.f133) = some c133 := by kernel_rfl
noncomputable def x134 : CodeOf Tryz.prog Tryz.f134 := ⟨_, rdc⟩
noncomputable def y134l0 : FoldOf (bodyL x134.c 0) [] := ⟨_, rdf⟩
noncomputable def c134l0 : C := (y134l0).c
noncomputable def y134 (v0 : C) : FoldOf x134.c [v0] := ⟨_, rdf⟩
noncomputable def c134 : C := (y134 c134l0).c
theorem c134_ok : cC Tryz.prog (bodyOf Tryz.f134) = some c134 := by kernel_rfl
noncomputable def x135 : CodeOf Tryz.prog Tryz.f135 := ⟨_, rdc⟩
noncomputable def y135l0 : FoldOf (bodyL x135.c 0) [] := ⟨_, rdf⟩
noncomputable def c135l0 : C := (y135l0).c
noncomputable def y135 (v0 : C) : FoldOf x135.c [v0] := ⟨_, rdf⟩
noncomputable def c135 : C := (y135 c135l0).c
theorem c135_ok : cC Tryz.prog (bodyOf Tryz.f135) = some c135 := by kernel_rfl
noncomputable def c136 : C := (.seq (.reg false [] [] [o 2 (.mv (kb false))]) (.seq (.reg false [] [] [o 3 (.mv (.t 0)), o 4 (.bin .eql (.t 3) (.c (.str ⟨#[65]⟩))), o 5 (.mv (.t 4)), og 6 (.mv (.t 0)) 5 false, og 7 (.bin .eql (.t 6) (.c (.str ⟨#[66]⟩))) 5 false, o 8 (.pick (.t 5) (kb true) (.t 7)), o 9 (.mv (.t 8)), og 10 (.mv (.t 0)) 9 false, og 11 (.bin .eql (.t 10) (.c (.str ⟨#[67]⟩))) 9 false, o 12 (.pick (.t 9) (kb true) (.t 11)), o 13 (.mv (.t 12)), og 14 (.mv (.t 0)) 13 false, og 15 (.bin .eql (.t 14) (.c (.str ⟨#[68]⟩))) 13 false, o 16 (.pick (.t 13) (kb true) (.t 15)), o 2 (.mv (.t 16))]) .ret))
theorem c136_ok : cC Tryz.prog (bodyOf Tryz.f136) = some c136 := by kernel_rfl
noncomputable def x137 : CodeOf Tryz.prog Tryz.f137 := ⟨_, rdc⟩
noncomputable def c137 : C := x137.c
theorem c137_ok : cC Tryz.prog (bodyOf Tryz.f137) = some c137 := x137.ok
noncomputable def x138 : CodeOf Tryz.prog Tryz.f138 := ⟨_, rdc⟩
noncomputable def c138 : C := x138.c
theorem c138_ok : cC Tryz.prog (bodyOf Tryz.f138) = some c138 := x138.ok
noncomputable def x139 : CodeOf Tryz.prog Tryz.f139 := ⟨_, rdc⟩
noncomputable def c139 : C := x139.c
theorem c139_ok : cC Tryz.prog (bodyOf Tryz.f139) = some c139 := x139.ok
noncomputable def x140 : CodeOf Tryz.prog Tryz.f140 := ⟨_, rdc⟩
noncomputable def c140 : C := x140.c
theorem c140_ok : cC Tryz.prog (bodyOf Tryz.f140) = some c140 := x140.ok
noncomputable def x141 : CodeOf Tryz.prog Tryz.f141 := ⟨_, rdc⟩
noncomputable def c141 : C := x141.c
theorem c141_ok : cC Tryz.prog (bodyOf Tryz.f141) = some c141 := x141.ok
noncomputable def x142 : CodeOf Tryz.prog Tryz.f142 := ⟨_, rdc⟩
noncomputable def c142 : C := x142.c
theorem c142_ok : cC Tryz.prog (bodyOf Tryz.f142) = some c142 := x142.ok
noncomputable def x143 : CodeOf Tryz.prog Tryz.f143 := ⟨_, rdc⟩
noncomputable def c143 : C := x143.c
theorem c143_ok : cC Tryz.prog (bodyOf Tryz.f143) = some c143 := x143.ok
noncomputable def x144 : CodeOf Tryz.prog Tryz.f144 := ⟨_, rdc⟩
noncomputable def y144l0 : FoldOf (bodyL x144.c 0) [] := ⟨_, rdf⟩
noncomputable def c144l0 : C := (y144l0).c
noncomputable def y144 (v0 : C) : FoldOf x144.c [v0] := ⟨_, rdf⟩
noncomputable def c144 : C := (y144 c144l0).c
theorem c144_ok : cC Tryz.prog (bodyOf Tryz.f144) = some c144 := by kernel_rfl
noncomputable def x145 : CodeOf Tryz.prog Tryz.f145 := ⟨_, rdc⟩
noncomputable def y145l0 : FoldOf (bodyL x145.c 0) [] := ⟨_, rdf⟩
noncomputable def c145l0 : C := (y145l0).c
noncomputable def y145 (v0 : C) : FoldOf x145.c [v0] := ⟨_, rdf⟩
noncomputable def c145 : C := (y145 c145l0).c
theorem c145_ok : cC Tryz.prog (bodyOf Tryz.f145) = some c145 := by kernel_rfl
noncomputable def x147 : CodeOf Tryz.prog Tryz.f147 := ⟨_, rdc⟩
noncomputable def y147l0 : FoldOf (bodyL x147.c 0) [] := ⟨_, rdf⟩
noncomputable def c147l0 : C := (y147l0).c
noncomputable def y147 (v0 : C) : FoldOf x147.c [v0] := ⟨_, rdf⟩
noncomputable def c147 : C := (y147 c147l0).c
theorem c147_ok : cC Tryz.prog (bodyOf Tryz.f147) = some c147 := by kernel_rfl
noncomputable def x149 : CodeOf Tryz.prog Tryz.f149 := ⟨_, rdc⟩
noncomputable def c149 : C := x149.c
theorem c149_ok : cC Tryz.prog (bodyOf Tryz.f149) = some c149 := x149.ok
noncomputable def x150 : CodeOf Tryz.prog Tryz.f150 := ⟨_, rdc⟩
noncomputable def y150l0 : FoldOf (bodyL x150.c 0) [] := ⟨_, rdf⟩
noncomputable def c150l0 : C := (y150l0).c
noncomputable def y150 (v0 : C) : FoldOf x150.c [v0] := ⟨_, rdf⟩
noncomputable def c150 : C := (y150 c150l0).c
theorem c150_ok : cC Tryz.prog (bodyOf Tryz.f150) = some c150 := by kernel_rfl
noncomputable def x151 : CodeOf Tryz.prog Tryz.f151 := ⟨_, rdc⟩
noncomputable def c151 : C := x151.c
theorem c151_ok : cC Tryz.prog (bodyOf Tryz.f151) = some c151 := x151.ok
noncomputable def x152 : CodeOf Tryz.prog Tryz.f152 := ⟨_, rdc⟩
noncomputable def y152l0 : FoldOf (bodyL x152.c 0) [] := ⟨_, rdf⟩
noncomputable def c152l0 : C := (y152l0).c
noncomputable def y152 (v0 : C) : FoldOf x152.c [v0] := ⟨_, rdf⟩
noncomputable def c152 : C := (y152 c152l0).c
theorem c152_ok : cC Tryz.prog (bodyOf Tryz.f152) = some c152 := by kernel_rfl
noncomputable def x153 : CodeOf Tryz.prog Tryz.f153 := ⟨_, rdc⟩
noncomputable def c153 : C := x153.c
theorem c153_ok : cC Tryz.prog (bodyOf Tryz.f153) = some c153 := x153.ok
noncomputable def x154 : CodeOf Tryz.prog Tryz.f154 := ⟨_, rdc⟩
noncomputable def c154 : C := x154.c
theorem c154_ok : cC Tryz.prog (bodyOf Tryz.f154) = some c154 := x154.ok
noncomputable def x155 : CodeOf Tryz.prog Tryz.f155 := ⟨_, rdc⟩
noncomputable def y155l0 : FoldOf (bodyL x155.c 0) [] := ⟨_, rdf⟩
noncomputable def c155l0 : C := (y155l0).c
noncomputable def y155 (v0 : C) : FoldOf x155.c [v0] := ⟨_, rdf⟩
noncomputable def c155 : C := (y155 c155l0).c
theorem c155_ok : cC Tryz.prog (bodyOf Tryz.f155) = some c155 := by kernel_rfl
noncomputable def x156 : CodeOf Tryz.prog Tryz.f156 := ⟨_, rdc⟩
noncomputable def y156l0 : FoldOf (bodyL x156.c 0) [] := ⟨_, rdf⟩
noncomputable def c156l0 : C := (y156l0).c
noncomputable def y156 (v0 : C) : FoldOf x156.c [v0] := ⟨_, rdf⟩
noncomputable def c156 : C := (y156 c156l0).c
theorem c156_ok : cC Tryz.prog (bodyOf Tryz.f156) = some c156 := by kernel_rfl
noncomputable def x157 : CodeOf Tryz.prog Tryz.f157 := ⟨_, rdc⟩
noncomputable def c157 : C := x157.c
theorem c157_ok : cC Tryz.prog (bodyOf Tryz.f157) = some c157 := x157.ok
noncomputable def x158 : CodeOf Tryz.prog Tryz.f158 := ⟨_, rdc⟩
noncomputable def c158 : C := x158.c
theorem c158_ok : cC Tryz.prog (bodyOf Tryz.f158) = some c158 := x158.ok
noncomputable def x159 : CodeOf Tryz.prog Tryz.f159 := ⟨_, rdc⟩
noncomputable def y159l0 : FoldOf (bodyL x159.c 0) [] := ⟨_, rdf⟩
noncomputable def c159l0 : C := (y159l0).c
noncomputable def y159 (v0 : C) : FoldOf x159.c [v0] := ⟨_, rdf⟩
noncomputable def c159 : C := (y159 c159l0).c
theorem c159_ok : cC Tryz.prog (bodyOf Tryz.f159) = some c159 := by kernel_rfl
noncomputable def c160 : C := (.seq (.reg false [] [] [o 3 (.box (.t 1)), o 4 (.mv (kb false))]) (.seq (.reg true [(10, 0)] [] [o 7 (.mv (.t 0)), o 8 (.mv (.t 0)), od 9 (.nilc (.t 8)) [1], od 10 (.fadr 2 (.t 9)) [2], od 11 (.load false 1 (.t 10)) [3], od 12 (.call 157 [.t 7, .t 11]) [0, 4], o 13 (.mv (.t 0)), o 14 (.mv (.t 0)), od 15 (.nilc (.t 14)) [7], od 16 (.fadr 2 (.t 15)) [8], od 17 (.load false 1 (.t 16)) [9], od 18 (.bin .sub (k 3) (.t 17)) [10], od 19 (.call 157 [.t 13, .t 18]) [6, 11, 5], od 5 (.mv (.t 12)) [5, 12, 0, 1, 2, 3, 4, 5], od 6 (.mv (.t 19)) [12, 13, 0, 1, 2, 3, 4, 5, 6, 7, 8, 9, 10, 11, 12, 13]]) (.seq (.seq (.reg false [] [] [o 20 (.fadr 0 (.t 3)), o 21 (.load false 1 (.t 20))]) (.blk 0 (.seq (.seq (.reg false [] [] [o 23 (.bin .eql (.t 21) (k 2)), o 22 (.mv (.t 23))]) (.cond (.t 22) .skip (.reg false [] [] [o 24 (.bin .eql (.t 21) (k 4)), o 22 (.mv (.t 24))]))) (.cond (.t 22) (.seq (.reg true [] [] [o 25 (.fadr 1 (.t 3)), od 26 (.load false 1 (.t 25)) [0], o 27 (.mv (.t 0)), od 28 (.nilc (.t 27)) [2], od 29 (.fadr 2 (.t 28)) [3], od 30 (.load false 1 (.t 29)) [4], od 31 (.bin .eql (.t 26) (.t 30)) [1, 5], od 32 (.mv (.t 31)) [6], odg 33 (.mv (.t 6)) 32 true [7], odg 34 (.nilc (.t 33)) 32 true [8, 7], odg 35 (.fadr 1 (.t 34)) 32 true [9, 7], odg 36 (.load false 1 (.t 35)) 32 true [10, 7], odg 37 (.mv (.t 0)) 32 true [7], odg 38 (.nilc (.t 37)) 32 true [12, 7], odg 39 (.fadr 1 (.t 38)) 32 true [13, 7], odg 40 (.load false 1 (.t 39)) 32 true [14, 7], odg 41 (.bin .eql (.t 36) (.t 40)) 32 true [11, 15, 7], od 42 (.pick (.t 32) (.t 41) (kb false)) [7, 16], od 43 (.mv (.t 42)) [17, 7], odg 44 (.mv (.t 6)) 43 true [18], odg 45 (.nilc (.t 44)) 43 true [19, 18], odg 46 (.fadr 4 (.t 45)) 43 true [20, 18], odg 47 (.load false 1 (.t 46)) 43 true [21, 18], odg 48 (.len (.t 47)) 43 true [22, 18], odg 49 (.fadr 3 (.t 3)) 43 true [18], odg 50 (.load false 1 (.t 49)) 43 true [24, 18], odg 51 (.bin .geq (.t 48) (.t 50)) 43 true [23, 25, 18], od 52 (.pick (.t 43) (.t 51) (kb false)) [18, 26], od 4 (.mv (.t 52)) [27, 18, 0, 1, 2, 3, 4, 5, 6, 7, 8, 9, 10, 11, 12, 13, 14, 15, 16, 17, 18, 19, 20, 21, 22, 23, 24, 25, 26, 27]]) .ret) (.seq (.reg false [] [] [o 54 (.bin .eql (.t 21) (k 1)), o 53 (.mv (.t 54))]) (.cond (.t 53) (.seq (.reg true [] [] [o 55 (.fadr 1 (.t 3)), od 56 (.load false 1 (.t 55)) [0], o 57 (.mv (.t 0)), od 58 (.nilc (.t 57)) [2], od 59 (.fadr 2 (.t 58)) [3], od 60 (.load false 1 (.t 59)) [4], od 61 (.bin .neq (.t 56) (.t 60)) [1, 5], od 62 (.mv (.t 61)) [6], odg 63 (.fadr 3 (.t 3)) 62 true [7], odg 64 (.load false 1 (.t 63)) 62 true [8, 7], odg 65 (.mv (.t 5)) 62 true [7], odg 66 (.nilc (.t 65)) 62 true [10, 7], odg 67 (.fadr 4 (.t 66)) 62 true [11, 7], odg 68 (.load false 1 (.t 67)) 62 true [12, 7], odg 69 (.len (.t 68)) 62 true [13, 7], odg 70 (.bin .leq (.t 64) (.t 69)) 62 true [9, 14, 7], od 71 (.pick (.t 62) (.t 70) (kb false)) [7, 15], od 72 (.mv (.t 71)) [16, 7], odg 73 (.mv (.t 5)) 72 true [17], odg 74 (.nilc (.t 73)) 72 true [18, 17], odg 75 (.fadr 4 (.t 74)) 72 true [19, 17], odg 76 (.load false 1 (.t 75)) 72 true [20, 17], odg 77 (.fadr 3 (.t 3)) 72 true [17], odg 78 (.load false 1 (.t 77)) 72 true [22, 17], odg 79 (.bin .sub (.t 78) (k 1)) 72 true [23, 17], odg 80 (.iadr 5 (.t 76) (.t 79)) 72 true [21, 24, 17], odg 81 (.load true 5 (.t 80)) 72 true [25, 17], odg 82 (.fadr 4 (.t 3)) 72 true [17], odg 83 (.load true 5 (.t 82)) 72 true [27, 17], odg 84 (.eqa false [1, 2, 2, 1, 2] (.t 81) (.t 83)) 72 true [26, 28, 17], od 85 (.pick (.t 72) (.t 84) (kb false)) [17, 29], od 4 (.mv (.t 85)) [30, 17, 0, 1, 2, 3, 4, 5, 6, 7, 8, 9, 10, 11, 12, 13, 14, 15, 16, 17, 18, 19, 20, 21, 22, 23, 24, 25, 26, 27, 28, 29, 30]]) .ret) .skip)))))) (.seq (.reg true [] [] [o 86 (.fadr 1 (.t 3)), od 87 (.load false 1 (.t 86)) [0], o 88 (.mv (.t 0)), od 89 (.nilc (.t 88)) [2], od 90 (.fadr 2 (.t 89)) [3], od 91 (.load false 1 (.t 90)) [4], od 92 (.bin .neq (.t 87) (.t 91)) [1, 5], od 93 (.mv (.t 92)) [6], odg 94 (.fadr 9 (.t 3)) 93 true [7], odg 95 (.load false 1 (.t 94)) 93 true [8, 7], odg 96 (.mv (.t 5)) 93 true [7], odg 97 (.nilc (.t 96)) 93 true [10, 7], odg 98 (.fadr 4 (.t 97)) 93 true [11, 7], odg 99 (.load false 1 (.t 98)) 93 true [12, 7], odg 100 (.call 158 [.t 95, .t 99]) 93 true [9, 13, 7, 7], od 101 (.pick (.t 93) (.t 100) (kb false)) [7, 14], od 4 (.mv (.t 101)) [15, 14, 0, 1, 2, 3, 4, 5, 6, 7, 8, 9, 10, 11, 12, 13, 14, 15]]) .ret))))
theorem c160_ok : cC Tryz.prog (bodyOf Tryz.f160) = some c160 := by kernel_rfl
noncomputable def x161 : CodeOf Tryz.prog Tryz.f161 := ⟨_, rdc⟩
noncomputable def c161 : C := x161.c
theorem c161_ok : cC Tryz.prog (bodyOf Tryz.f161) = some c161 := x161.ok
noncomputable def x162 : CodeOf Tryz.prog Tryz.f162 := ⟨_, rdc⟩
noncomputable def c162 : C := x162.c
theorem c162_ok : cC Tryz.prog (bodyOf Tryz.f162) = some c162 := x162.ok
noncomputable def x163 : CodeOf Tryz.prog Tryz.f163 := ⟨_, rdc⟩
noncomputable def c163 : C := x163.c
theorem c163_ok : cC Tryz.prog (bodyOf Tryz.f163) = some c163 := x163.ok
noncomputable def x164 : CodeOf Tryz.prog Tryz.f164 := ⟨_, rdc⟩
noncomputable def y164l0 : FoldOf (bodyL x164.c 0) [] := ⟨_, rdf⟩
noncomputable def c164l0 : C := (y164l0).c
noncomputable def y164 (v0 : C) : FoldOf x164.c [v0] := ⟨_, rdf⟩
noncomputable def c164 : C := (y164 c164l0).c
theorem c164_ok : cC Tryz.prog (bodyOf Tryz.f164) = some c164 := by kernel_rfl
noncomputable def x170 : CodeOf Tryz.prog Tryz.f170 := ⟨_, rdc⟩
noncomputable def c170 : C := x170.c
theorem c170_ok : cC Tryz.prog (bodyOf Tryz.f170) = some c170 := x170.ok
noncomputable def x171 : CodeOf Tryz.prog Tryz.f171 := ⟨_, rdc⟩
noncomputable def c171 : C := x171.c
theorem c171_ok : cC Tryz.prog (bodyOf Tryz.f171) = some c171 := x171.ok
noncomputable def x172 : CodeOf Tryz.prog Tryz.f172 := ⟨_, rdc⟩
noncomputable def y172l0 : FoldOf (bodyL x172.c 0) [] := ⟨_, rdf⟩
noncomputable def c172l0 : C := (y172l0).c
noncomputable def y172 (v0 : C) : FoldOf x172.c [v0] := ⟨_, rdf⟩
noncomputable def c172 : C := (y172 c172l0).c
theorem c172_ok : cC Tryz.prog (bodyOf Tryz.f172) = some c172 := by kernel_rfl
noncomputable def x173 : CodeOf Tryz.prog Tryz.f173 := ⟨_, rdc⟩
noncomputable def c173 : C := x173.c
theorem c173_ok : cC Tryz.prog (bodyOf Tryz.f173) = some c173 := x173.ok
noncomputable def x174 : CodeOf Tryz.prog Tryz.f174 := ⟨_, rdc⟩
noncomputable def y174l0 : FoldOf (bodyL x174.c 0) [] := ⟨_, rdf⟩
noncomputable def c174l0 : C := (y174l0).c
noncomputable def y174 (v0 : C) : FoldOf x174.c [v0] := ⟨_, rdf⟩
noncomputable def c174 : C := (y174 c174l0).c
theorem c174_ok : cC Tryz.prog (bodyOf Tryz.f174) = some c174 := by kernel_rfl
noncomputable def x175 : CodeOf Tryz.prog Tryz.f175 := ⟨_, rdc⟩
noncomputable def c175 : C := x175.c
theorem c175_ok : cC Tryz.prog (bodyOf Tryz.f175) = some c175 := x175.ok
noncomputable def x178 : CodeOf Tryz.prog Tryz.f178 := ⟨_, rdc⟩
noncomputable def c178 : C := x178.c
theorem c178_ok : cC Tryz.prog (bodyOf Tryz.f178) = some c178 := x178.ok
noncomputable def x179 : CodeOf Tryz.prog Tryz.f179 := ⟨_, rdc⟩
noncomputable def y179l0 : FoldOf (bodyL x179.c 0) [] := ⟨_, rdf⟩
noncomputable def c179l0 : C := (y179l0).c
noncomputable def y179 (v0 : C) : FoldOf x179.c [v0] := ⟨_, rdf⟩
noncomputable def c179 : C := (y179 c179l0).c
theorem c179_ok : cC Tryz.prog (bodyOf Tryz.f179) = some c179 := by kernel_rfl
noncomputable def x180 : CodeOf Tryz.prog Tryz.f180 := ⟨_, rdc⟩
noncomputable def c180 : C := x180.c
theorem c180_ok : cC Tryz.prog (bodyOf Tryz.f180) = some c180 := x180.ok
noncomputable def x181 : CodeOf Tryz.prog Tryz.f181 := ⟨_, rdc⟩
noncomputable def c181 : C := x181.c
theorem c181_ok : cC Tryz.prog (bodyOf Tryz.f181) = some c181 := x181.ok
noncomputable def x184 : CodeOf Tryz.prog Tryz.f184 := ⟨_, rdc⟩
noncomputable def y184l0 : FoldOf (bodyL x184.c 0) [] := ⟨_, rdf⟩
noncomputable def c184l0 : C := (y184l0).c
noncomputable def y184 (v0 : C) : FoldOf x184.c [v0] := ⟨_, rdf⟩
noncomputable def c184 : C := (y184 c184l0).c
theorem c184_ok : cC Tryz.prog (bodyOf Tryz.f184) = some c184 := by kernel_rfl
noncomputable def x185 : CodeOf Tryz.prog Tryz.f185 := ⟨_, rdc⟩
noncomputable def y185l0 : FoldOf (bodyL x185.c 0) [] := ⟨_, rdf⟩
noncomputable def c185l0 : C := (y185l0).c
noncomputable def y185 (v0 : C) : FoldOf x185.c [v0] := ⟨_, rdf⟩
noncomputable def c185 : C := (y185 c185l0).c
theorem c185_ok : cC Tryz.prog (bodyOf Tryz.f185) = some c185 := by kernel_rfl
noncomputable def x186 : CodeOf Tryz.prog Tryz.f186 := ⟨_, rdc⟩
noncomputable def c186 : C := x186.c
theorem c186_ok : cC Tryz.prog (bodyOf Tryz.f186) = some c186 := x186.ok
noncomputable def x187 : CodeOf Tryz.prog Tryz.f187 := ⟨_, rdc⟩
noncomputable def c187 : C := x187.c
theorem c187_ok : cC Tryz.prog (bodyOf Tryz.f187) = some c187 := x187.ok
noncomputable def c188l0 : C := (.seq (.reg false [] [] [o 14 (.bin .lss (.t 13) (.t 12))]) (.seq (.cond (.t 14) .skip (.exit 0)) (.seq (.blk 1 (.seq (.reg false [] [] [o 15 (.mv (.t 13)), o 5 (.mv (.t 15))]) (.seq (.reg true [] [] [o 16 (.mv (.t 0)), o 17 (.mv (.t 5)), od 18 (.iadr 5 (.t 16) (.t 17)) [0, 1], od 19 (.load true 5 (.t 18)) [2], o 20 (.mv (.t 1)), o 21 (.mv (.t 5)), od 22 (.iadr 5 (.t 20) (.t 21)) [4, 5], od 23 (.load true 5 (.t 22)) [6], od 24 (.eqa true [1, 2, 2, 1, 2] (.t 19) (.t 23)) [3, 7]]) (.cond (.t 24) (.seq (.reg false [] [] [o 4 (.mv (kb false))]) .ret) .skip)))) (.reg false [] [] [o 25 (.bin .add (.t 13) (k 1)), o 13 (.mv (.t 25))]))))
noncomputable def c188 : C := (.seq (.reg false [] [] [o 4 (.mv (kb false))]) (.seq (.seq (.reg false [] [] [o 6 (.mv (.t 0)), o 7 (.len (.t 6)), o 8 (.mv (.t 1)), o 9 (.len (.t 8)), o 10 (.bin .neq (.t 7) (.t 9))]) (.cond (.t 10) (.seq (.reg false [] [] [o 4 (.mv (kb false))]) .ret) .skip)) (.seq (.seq (.reg false [] [] [o 11 (.mv (.t 0)), o 12 (.len (.t 11)), o 13 (.mv (k 0))]) (.blk 0 (.loop c188l0))) (.seq (.reg false [] [] [o 4 (.mv (kb true))]) .ret))))
theorem c188_ok : cC Tryz.prog (bodyOf Tryz.f188) = some c188 := by kernel_rfl
noncomputable def x189 : CodeOf Tryz.prog Tryz.f189 := ⟨_, rdc⟩
noncomputable def c189 : C := x189.c
theorem c189_ok : cC Tryz.prog (bodyOf Tryz.f189) = some c189 := x189.ok
noncomputable def x190 : CodeOf Tryz.prog Tryz.f190 := ⟨_, rdc⟩
noncomputable def c190 : C := x190.c
theorem c190_ok : cC Tryz.prog (bodyOf Tryz.f190) = some c190 := x190.ok
noncomputable def x191 : CodeOf Tryz.prog Tryz.f191 := ⟨_, rdc⟩
noncomputable def c191 : C := x191.c
theorem c191_ok : cC Tryz.prog (bodyOf Tryz.f191) = some c191 := x191.ok
noncomputable def x192 : CodeOf Tryz.prog Tryz.f192 := ⟨_, rdc⟩
noncomputable def c192 : C := x192.c
theorem c192_ok : cC Tryz.prog (bodyOf Tryz.f192) = some c192 := x192.ok
noncomputable def x193 : CodeOf Tryz.prog Tryz.f193 := ⟨_, rdc⟩
noncomputable def c193 : C := x193.c
theorem c193_ok : cC Tryz.prog (bodyOf Tryz.f193) = some c193 := x193.ok
noncomputable def x196 : CodeOf Tryz.prog Tryz.f196 := ⟨_, rdc⟩
noncomputable def y196l0 : FoldOf (bodyL x196.c 0) [] := ⟨_, rdf⟩
noncomputable def c196l0 : C := (y196l0).c
noncomputable def y196 (v0 : C) : FoldOf x196.c [v0] := ⟨_, rdf⟩
noncomputable def c196 : C := (y196 c196l0).c
theorem c196_ok : cC Tryz.prog (bodyOf Tryz.f196) = some c196 := by kernel_rfl
noncomputable def x200 : CodeOf Tryz.prog Tryz.f200 := ⟨_, rdc⟩
noncomputable def c200 : C := x200.c
theorem c200_ok : cC Tryz.prog (bodyOf Tryz.f200) = some c200 := x200.ok
noncomputable def x201 : CodeOf Tryz.prog Tryz.f201 := ⟨_, rdc⟩
noncomputable def c201 : C := x201.c
theorem c201_ok : cC Tryz.prog (bodyOf Tryz.f201) = some c201 := x201.ok
noncomputable def x202 : CodeOf Tryz.prog Tryz.f202 := ⟨_, rdc⟩
noncomputable def y202l0 : FoldOf (bodyL x202.c 0) [] := ⟨_, rdf⟩
noncomputable def c202l0 : C := (y202l0).c
noncomputable def y202 (v0 : C) : FoldOf x202.c [v0] := ⟨_, rdf⟩
noncomputable def c202 : C := (y202 c202l0).c
theorem c202_ok : cC Tryz.prog (bodyOf Tryz.f202) = some c202 := by kernel_rfl
noncomputable def x203 : CodeOf Tryz.prog Tryz.f203 := ⟨_, rdc⟩
noncomputable def c203 : C := x203.c
theorem c203_ok : cC Tryz.prog (bodyOf Tryz.f203) = some c203 := x203.ok
noncomputable def x204 : CodeOf Tryz.prog Tryz.f204 := ⟨_, rdc⟩
noncomputable def c204 : C := x204.c
theorem c204_ok : cC Tryz.prog (bodyOf Tryz.f204) = some c204 := x204.ok
noncomputable def x207 : CodeOf Tryz.prog Tryz.f207 := ⟨_, rdc⟩
noncomputable def y207l0 : FoldOf (bodyL x207.c 0) [] := ⟨_, rdf⟩
noncomputable def c207l0 : C := (y207l0).c
noncomputable def y207 (v0 : C) : FoldOf x207.c [v0] := ⟨_, rdf⟩
noncomputable def c207 : C := (y207 c207l0).c
theorem c207_ok : cC Tryz.prog (bodyOf Tryz.f207) = some c207 := by kernel_rfl
noncomputable def x208 : CodeOf Tryz.prog Tryz.f208 := ⟨_, rdc⟩
noncomputable def c208 : C := x208.c
theorem c208_ok : cC Tryz.prog (bodyOf Tryz.f208) = some c208 := x208.ok
end Go.Gn

