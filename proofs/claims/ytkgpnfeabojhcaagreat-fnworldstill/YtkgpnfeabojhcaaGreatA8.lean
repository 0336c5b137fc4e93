/- Part 8 of a proof: an evaluator of the program, proved sound, and what it answers. -/
import Derived.Test.YtkgpnfeabojhcaaGreatA1
import Derived.Test.YtkgpnfeabojhcaaGreatProg
set_option linter.all false
namespace Go.Gn
open Go Go.Proofs
set_option maxRecDepth 100000
set_option maxHeartbeats 4000000
def bodyOf (f : Func) : Code := match f.body with | some c => c | none => .skip
def look : List (Nat × CF) → Nat → Option CF
 | [], _ => none
 | (k, c) :: l, f => match Nat.beq k f with | true => some c | false => look l f
structure CodeOf (P : Program) (f : Func) where
  c : C
  ok : cC P (bodyOf f) = some c
theorem qm1 : Int.negSucc 0 = -1 := rfl
theorem q0 : Int.ofNat 0 = 0 := rfl
theorem q1 : Int.ofNat 1 = 1 := rfl
theorem q2 : Int.ofNat 2 = 2 := rfl
theorem q3 : Int.ofNat 3 = 3 := rfl
theorem q4 : Int.ofNat 4 = 4 := rfl
theorem q5 : Int.ofNat 5 = 5 := rfl
theorem q6 : Int.ofNat 6 = 6 := rfl
theorem q7 : Int.ofNat 7 = 7 := rfl
theorem q8 : Int.ofNat 8 = 8 := rfl
theorem q9 : Int.ofNat 9 = 9 := rfl
theorem q10 : Int.ofNat 10 = 10 := rfl
theorem q11 : Int.ofNat 11 = 11 := rfl
theorem q12 : Int.ofNat 12 = 12 := rfl
theorem q14 : Int.ofNat 14 = 14 := rfl
theorem q20 : Int.ofNat 20 = 20 := rfl
theorem q23 : Int.ofNat 23 = 23 := rfl
theorem q24 : Int.ofNat 24 = 24 := rfl
theorem q29 : Int.ofNat 29 = 29 := rfl
theorem q30 : Int.ofNat 30 = 30 := rfl
theorem q40 : Int.ofNat 40 = 40 := rfl
theorem q48 : Int.ofNat 48 = 48 := rfl
theorem q53 : Int.ofNat 53 = 53 := rfl
theorem q55 : Int.ofNat 55 = 55 := rfl
theorem q60 : Int.ofNat 60 = 60 := rfl
theorem q64 : Int.ofNat 64 = 64 := rfl
theorem q65 : Int.ofNat 65 = 65 := rfl
theorem q68 : Int.ofNat 68 = 68 := rfl
theorem q97 : Int.ofNat 97 = 97 := rfl
theorem q99 : Int.ofNat 99 = 99 := rfl
theorem q100 : Int.ofNat 100 = 100 := rfl
theorem q131 : Int.ofNat 131 = 131 := rfl
theorem q1117 : Int.ofNat 1117 = 1117 := rfl
theorem q2000 : Int.ofNat 2000 = 2000 := rfl
theorem q1048576 : Int.ofNat 1048576 = 1048576 := rfl
theorem rdc {P : Program} {f : Func} {c : C} (h : cC P (bodyOf f) = some c := by conv => lhs; reduce; try simp only [qm1, q0, q1, q2, q3, q4, q5, q6, q7, q8, q9, q10, q11, q12, q14, q20, q23, q24, q29, q30, q40, q48, q53, q55, q60, q64, q65, q68, q97, q99, q100, q131, q1117, q2000, q1048576]) : cC P (bodyOf f) = some c := h
noncomputable def loopsC : C → List C
  | .seq a b => loopsC a ++ loopsC b
  | .cond _ a b => loopsC a ++ loopsC b
  | .blk _ c => loopsC c
  | .loop c => c :: loopsC c
  | _ => []
noncomputable def cntL : C → Nat
  | .seq a b => cntL a + cntL b
  | .cond _ a b => cntL a + cntL b
  | .blk _ c => cntL c
  | .loop c => cntL c + 1
  | _ => 0
noncomputable def foldL (vs : List C) : C → Nat → C
  | .seq a b, n => .seq (foldL vs a n) (foldL vs b (n + cntL a))
  | .cond x a b, n => .cond x (foldL vs a n) (foldL vs b (n + cntL a))
  | .blk i c, n => .blk i (foldL vs c n)
  | .loop _, n => .loop (vs.getD n .skip)
  | c, _ => c
noncomputable def bodyL (c : C) (i : Nat) : C := (loopsC c).getD i .skip
structure FoldOf (b : C) (vs : List C) where
  c : C
  ok : foldL vs b 0 = c
theorem rdf {b c : C} {vs : List C} (h : foldL vs b 0 = c := by conv => lhs; reduce; try simp only [qm1, q0, q1, q2, q3, q4, q5, q6, q7, q8, q9, q10, q11, q12, q14, q20, q23, q24, q29, q30, q40, q48, q53, q55, q60, q64, q65, q68, q97, q99, q100, q131, q1117, q2000, q1048576]) : foldL vs b 0 = c := h
noncomputable def x4 : CodeOf Tryz.prog Tryz.f4 := ⟨_, rdc⟩
noncomputable def y4l0 : FoldOf (bodyL x4.c 0) [] := ⟨_, rdf⟩
noncomputable def c4l0 : C := (y4l0).c
noncomputable def y4 (v0 : C) : FoldOf x4.c [v0] := ⟨_, rdf⟩
noncomputable def c4 : C := (y4 c4l0).c
theorem c4_ok : cC Tryz.prog (bodyOf Tryz.f4) = some c4 := by kernel_rfl
noncomputable def x5 : CodeOf Tryz.prog Tryz.f5 := ⟨_, rdc⟩
noncomputable def y5l0 : FoldOf (bodyL x5.c 0) [] := ⟨_, rdf⟩
noncomputable def c5l0 : C := (y5l0).c
noncomputable def y5 (v0 : C) : FoldOf x5.c [v0] := ⟨_, rdf⟩
noncomputable def c5 : C := (y5 c5l0).c
theorem c5_ok : cC Tryz.prog (bodyOf Tryz.f5) = some c5 := by kernel_rfl
noncomputable def c8l0 : C := (.seq (.seq (.reg false [] [] [o 62 (.mv (.t 10)), o 63 (.fadr 4 (.t 4)), o 64 (.load false 1 (.t 63)), o 65 (.len (.t 64)), o 66 (.bin .lss (.t 62) (.t 65))]) (.cond (.t 66) .skip (.exit 0))) (.seq (.blk 1 (.seq (.reg false [] [] [o 69 (.fadr 4 (.t 4)), o 70 (.load false 1 (.t 69)), o 71 (.mv (.t 10)), o 72 (.iadr 10 (.t 70) (.t 71)), o 73 (.load true 10 (.t 72)), o 11 (.alloc [(.int .i64 0), (.int .i64 0), (.int .i64 0), (.int .i64 0), (.int .i64 0), (.str ⟨#[]⟩), (.str ⟨#[]⟩), (.int .i64 0), (.str ⟨#[]⟩), .nils]), on (.store 10 (.t 11) (.t 73))]) (.seq (.seq (.reg false [] [] [o 74 (.fadr 2 (.t 11)), o 75 (.load false 1 (.t 74)), o 76 (.fadr 1 (.t 4)), o 77 (.load false 1 (.t 76)), o 78 (.bin .neq (.t 75) (.t 77))]) (.cond (.t 78) (.exit 1) .skip)) (.seq (.seq (.reg true [] [] [o 79 (.fadr 0 (.t 11)), od 80 (.load false 1 (.t 79)) [0], od 81 (.bin .eql (.t 80) (k 1)) [1], od 82 (.mv (.t 81)) [2], odg 83 (.fadr 3 (.t 11)) 82 true [3], odg 84 (.load false 1 (.t 83)) 82 true [4, 3], odg 85 (.fadr 4 (.t 8)) 82 true [3], odg 86 (.load false 1 (.t 85)) 82 true [6, 3], odg 87 (.len (.t 86)) 82 true [7, 3], odg 88 (.bin .gtr (.t 84) (.t 87)) 82 true [5, 8, 3], odg 89 (.mv (.t 88)) 82 true [9, 3, 3], odg 90 (.fadr 4 (.t 8)) 89 false [10], odg 91 (.load false 1 (.t 90)) 89 false [11, 10], odg 92 (.fadr 3 (.t 11)) 89 false [10], odg 93 (.load false 1 (.t 92)) 89 false [13, 10], odg 94 (.bin .sub (.t 93) (k 1)) 89 false [14, 10], odg 95 (.iadr 5 (.t 91) (.t 94)) 89 false [12, 15, 10], odg 96 (.load true 5 (.t 95)) 89 false [16, 10], odg 97 (.fadr 4 (.t 11)) 89 false [10], odg 98 (.load true 5 (.t 97)) 89 false [18, 10], odg 99 (.eqa true [1, 2, 2, 1, 2] (.t 96) (.t 98)) 89 false [17, 19, 10], odg 100 (.pick (.t 89) (kb true) (.t 99)) 82 true [10, 20, 3], od 101 (.pick (.t 82) (.t 100) (kb false)) [3, 21], od 102 (.mv (.t 101)) [22, 10], odg 103 (.fadr 0 (.t 11)) 102 false [23], odg 104 (.load false 1 (.t 103)) 102 false [24, 23], odg 105 (.bin .eql (.t 104) (k 3)) 102 false [25, 23], odg 106 (.mv (.t 105)) 102 false [26, 23, 23], odg 107 (.fadr 9 (.t 11)) 106 true [27], odg 108 (.load false 1 (.t 107)) 106 true [28, 27], odg 109 (.fadr 4 (.t 8)) 106 true [27], odg 110 (.load false 1 (.t 109)) 106 true [30, 27], odg 111 (.call 38 [.t 108, .t 110]) 106 true [29, 31, 27, 27], odg 112 (.not (.t 111)) 106 true [32, 27], odg 113 (.pick (.t 106) (.t 112) (kb false)) 102 false [27, 33, 23], od 114 (.pick (.t 102) (kb true) (.t 113)) [23, 34]]) (.cond (.t 114) (.seq (.reg false [] [] [o 2 (.mv (kb false))]) .ret) .skip)) (.seq (.reg false [] [] [o 115 (.fadr 0 (.t 11)), o 116 (.load false 1 (.t 115)), o 117 (.bin .eql (.t 116) (k 2)), o 118 (.mv (.t 117)), og 119 (.fadr 0 (.t 11)) 118 false, og 120 (.load false 1 (.t 119)) 118 false, og 121 (.bin .eql (.t 120) (k 4)) 118 false, o 122 (.pick (.t 118) (kb true) (.t 121)), o 123 (.mv (.t 122)), og 124 (.fadr 3 (.t 11)) 123 true, og 125 (.load false 1 (.t 124)) 123 true, og 126 (.fadr 4 (.t 9)) 123 true, og 127 (.load false 1 (.t 126)) 123 true, og 128 (.len (.t 127)) 123 true, og 129 (.bin .gtr (.t 125) (.t 128)) 123 true, o 130 (.pick (.t 123) (.t 129) (kb false))]) (.cond (.t 130) (.seq (.reg false [] [] [o 2 (.mv (kb false))]) .ret) .skip)))))) (.reg false [] [] [o 67 (.mv (.t 10)), o 68 (.bin .add (.t 67) (k 1)), o 10 (.mv (.t 68))])))
noncomputable def c8 : C := (.seq (.reg false [] [] [o 2 (.mv (kb false))]) (.seq (.seq (.reg false [] [] [o 12 (.mv (.t 0)), o 13 (.len (.t 12)), o 14 (.bin .gtr (.t 13) (k 1048576))]) (.cond (.t 14) (.seq (.reg false [] [] [o 2 (.mv (kb true))]) .ret) .skip)) (.seq (.reg false [] [] [o 15 (.mv (.t 0)), o 16 (.call 33 [.t 15]), o 3 (.mv (.t 16))]) (.seq (.reg false [] [] [o 18 (.mv (.t 3)), o 19 (.call 34 [.t 18]), o 17 (.mv (.t 19)), o 20 (.ext (.t 17) 0), o 21 (.ext (.t 17) 1), o 4 (.alloc [.nils, (.int .i64 0), (.int .i64 0), (.bool false), .nils, .nils]), on (.store 6 (.t 4) (.t 20)), o 5 (.mv (.t 21))]) (.seq (.reg false [] [] [o 23 (.mv (.t 3)), o 24 (.call 35 [.t 23]), o 22 (.mv (.t 24)), o 25 (.ext (.t 22) 0), o 26 (.ext (.t 22) 1), o 6 (.alloc [.nils, (.int .i64 0), (.int .i64 0), (.bool false), .nils, .nils]), on (.store 6 (.t 6) (.t 25)), o 7 (.mv (.t 26))]) (.seq (.seq (.reg false [] [] [o 27 (.mv (.t 5)), o 28 (.mv (.t 7)), o 29 (.beq true (.t 27) (.t 28)), o 30 (.mv (.t 29)), og 31 (.load true 6 (.t 4)) 30 false, og 32 (.load true 6 (.t 6)) 30 false, og 33 (.call 36 [.t 31, .t 32]) 30 false, og 34 (.not (.t 33)) 30 false, o 35 (.pick (.t 30) (kb true) (.t 34)), o 36 (.mv (.t 35)), og 37 (.mv (.t 5)) 36 false, og 38 (.not (.t 37)) 36 false, o 39 (.pick (.t 36) (kb true) (.t 38))]) (.cond (.t 39) (.seq (.reg false [] [] [o 40 (.mv (.t 5)), o 41 (.mv (.t 7)), o 42 (.beq false (.t 40) (.t 41)), o 43 (.mv (.t 42)), og 44 (.load true 6 (.t 4)) 43 true, og 45 (.load true 6 (.t 6)) 43 true, og 46 (.call 36 [.t 44, .t 45]) 43 true, o 47 (.pick (.t 43) (.t 46) (kb false)), o 2 (.mv (.t 47))]) .ret) .skip)) (.seq (.reg false [] [] [o 48 (.fadr 0 (.t 4)), o 49 (.load false 1 (.t 48)), o 50 (.fadr 2 (.t 4)), o 51 (.load false 1 (.t 50)), o 52 (.bin .sub (.t 51) (k 1)), o 53 (.iadr 5 (.t 49) (.t 52)), o 54 (.load true 5 (.t 53)), o 8 (.alloc [(.bool false), (.int .i64 0), (.bool false), (.bool false), .nils]), on (.store 5 (.t 8) (.t 54))]) (.seq (.reg false [] [] [o 55 (.fadr 0 (.t 4)), o 56 (.load false 1 (.t 55)), o 57 (.fadr 2 (.t 4)), o 58 (.load false 1 (.t 57)), o 59 (.bin .sub (k 2) (.t 58)), o 60 (.iadr 5 (.t 56) (.t 59)), o 61 (.load true 5 (.t 60)), o 9 (.alloc [(.bool false), (.int .i64 0), (.bool false), (.bool false), .nils]), on (.store 5 (.t 9) (.t 61))]) (.seq (.seq (.reg false [] [] [o 10 (.mv (k 0))]) (.blk 0 (.loop c8l0))) (.seq (.reg false [] [] [o 2 (.mv (kb true))]) .ret))))))))))
theorem c8_ok : cC Tryz.prog (bodyOf Tryz.f8) = some c8 := by kernel_rfl
noncomputable def x9 : CodeOf Tryz.prog Tryz.f9 := ⟨_, rdc⟩
noncomputable def x13 : CodeOf Tryz.prog Tryz.f13 := ⟨_, rdc⟩
noncomputable def x15 : CodeOf Tryz.prog Tryz.f15 := ⟨_, rdc⟩
noncomputable def y15l0 : FoldOf (bodyL x15.c 0) [] := ⟨_, rdf⟩
noncomputable def c15l0 : C := (y15l0).c
noncomputable def y15 (v0 : C) : FoldOf x15.c [v0] := ⟨_, rdf⟩
noncomputable def c15 : C := (y15 c15l0).c
theorem c15_ok : cC Tryz.prog (bodyOf Tryz.f15) = some c15 := by kernel_rfl
noncomputable def x16 : CodeOf Tryz.prog Tryz.f16 := ⟨_, rdc⟩
noncomputable def y16l0 : FoldOf (bodyL x16.c 0) [] := ⟨_, rdf⟩
noncomputable def c16l0 : C := (y16l0).c
noncomputable def y16 (v0 : C) : FoldOf x16.c [v0] := ⟨_, rdf⟩
noncomputable def c16 : C := (y16 c16l0).c
theorem c16_ok : cC Tryz.prog (bodyOf Tryz.f16) = some c16 := by kernel_rfl
noncomputable def c17l0 : C := (.seq (.seq (.reg false [] [] [o 72 (.mv (.t 12)), o 73 (.bin .lss (.t 72) (k 4))]) (.cond (.t 73) .skip (.exit 0))) (.seq (.blk 1 (.seq (.reg true [(0, 4), (2, 4), (6, 0)] [] [o 76 (.load true 6 (.t 11)), o 77 (.fadr 2 (.t 6)), od 78 (.load false 1 (.t 77)) [1], o 79 (.mks 1 4 [(.str ⟨#[]⟩)] [(0, 1, (.c (.str ⟨#[65]⟩))), (1, 1, (.c (.str ⟨#[66]⟩))), (2, 1, (.c (.str ⟨#[67]⟩))), (3, 1, (.c (.str ⟨#[68]⟩)))]), o 80 (.mv (.t 12)), o 81 (.mv (.t 1)), od 82 (.len (.t 81)) [5], od 83 (.bin .add (.t 80) (.t 82)) [4, 6], od 84 (.bin .rem (.t 83) (k 4)) [7], od 85 (.iadr 1 (.t 79) (.t 84)) [3, 8], od 86 (.load false 1 (.t 85)) [9], od 87 (.build [(.int .i64 0), (.str ⟨#[]⟩), (.str ⟨#[]⟩), (.int .i64 0), (.str ⟨#[]⟩)] [(0, 1, (k 1)), (1, 1, (.t 86)), (3, 1, (k 1))]) [10], od 88 (.build [(.int .i64 0), (.int .i64 0), (.int .i64 0), (.str ⟨#[]⟩), (.str ⟨#[]⟩), (.int .i64 0), (.str ⟨#[]⟩)] [(0, 1, (k 1)), (1, 1, (.t 78)), (2, 5, (.t 87))]) [2, 11], od 89 (.call 49 [.t 76, .t 88]) [0, 12], ⟨none, (.store 6 (.t 11) (.t 89)), none, [13, 13, 0, 1, 2, 3, 4, 5, 6, 7, 8, 9, 10, 11, 12, 13]⟩]) (.reg false [] [] [o 90 (.load true 6 (.t 11)), o 91 (.fadr 4 (.t 11)), o 92 (.load false 1 (.t 91)), o 93 (.len (.t 92)), o 94 (.bin .sub (.t 93) (k 1)), o 95 (.build [(.int .i64 0), (.int .i64 0), (.int .i64 0), (.str ⟨#[]⟩), (.str ⟨#[]⟩), (.int .i64 0), (.str ⟨#[]⟩)] [(0, 1, (k 2)), (1, 1, (.t 94))]), o 96 (.call 49 [.t 90, .t 95]), on (.store 6 (.t 11) (.t 96))]))) (.reg false [] [] [o 74 (.mv (.t 12)), o 75 (.bin .add (.t 74) (k 1)), o 12 (.mv (.t 75))])))
noncomputable def c17 : C := (.seq (.reg false [] [] [o 4 (.mv (kb false))]) (.seq (.seq (.reg false [] [] [o 13 (.mv (.t 0)), o 14 (.len (.t 13)), o 15 (.bin .gtr (.t 14) (k 1048576)), o 16 (.mv (.t 15)), og 17 (.mv (.t 1)) 16 false, og 18 (.len (.t 17)) 16 false, og 19 (.bin .gtr (.t 18) (k 1048576)) 16 false, o 20 (.pick (.t 16) (kb true) (.t 19))]) (.cond (.t 20) (.seq (.reg false [] [] [o 4 (.mv (kb true))]) .ret) .skip)) (.seq (.reg false [] [] [o 21 (.mv (.t 0)), o 22 (.call 33 [.t 21]), o 5 (.mv (.t 22))]) (.seq (.reg false [] [] [o 24 (.mv (.t 5)), o 25 (.call 34 [.t 24]), o 23 (.mv (.t 25)), o 26 (.ext (.t 23) 0), o 27 (.ext (.t 23) 1), o 6 (.alloc [.nils, (.int .i64 0), (.int .i64 0), (.bool false), .nils, .nils]), on (.store 6 (.t 6) (.t 26)), o 7 (.mv (.t 27))]) (.seq (.reg false [] [] [o 29 (.mv (.t 5)), o 30 (.call 35 [.t 29]), o 28 (.mv (.t 30)), o 31 (.ext (.t 28) 0), o 32 (.ext (.t 28) 1), o 8 (.alloc [.nils, (.int .i64 0), (.int .i64 0), (.bool false), .nils, .nils]), on (.store 6 (.t 8) (.t 31)), o 9 (.mv (.t 32))]) (.seq (.seq (.reg false [] [] [o 33 (.mv (.t 7)), o 34 (.mv (.t 9)), o 35 (.beq true (.t 33) (.t 34)), o 36 (.mv (.t 35)), og 37 (.load true 6 (.t 6)) 36 false, og 38 (.load true 6 (.t 8)) 36 false, og 39 (.call 36 [.t 37, .t 38]) 36 false, og 40 (.not (.t 39)) 36 false, o 41 (.pick (.t 36) (kb true) (.t 40)), o 42 (.mv (.t 41)), og 43 (.mv (.t 7)) 42 false, og 44 (.not (.t 43)) 42 false, o 45 (.pick (.t 42) (kb true) (.t 44))]) (.cond (.t 45) (.seq (.reg false [] [] [o 46 (.mv (.t 7)), o 47 (.mv (.t 9)), o 48 (.beq false (.t 46) (.t 47)), o 49 (.mv (.t 48)), og 50 (.load true 6 (.t 6)) 49 true, og 51 (.load true 6 (.t 8)) 49 true, og 52 (.call 36 [.t 50, .t 51]) 49 true, o 53 (.pick (.t 49) (.t 52) (kb false)), o 4 (.mv (.t 53))]) .ret) .skip)) (.seq (.seq (.reg false [] [] [o 54 (.fadr 3 (.t 6)), o 55 (.load false 1 (.t 54)), o 56 (.not (.t 55)), o 57 (.mv (.t 56)), og 58 (.fadr 0 (.t 6)) 57 false, og 59 (.load false 1 (.t 58)) 57 false, og 60 (.fadr 2 (.t 6)) 57 false, og 61 (.load false 1 (.t 60)) 57 false, og 62 (.bin .sub (k 2) (.t 61)) 57 false, og 63 (.iadr 5 (.t 59) (.t 62)) 57 false, og 64 (.fadr 0 (.t 63)) 57 false, og 65 (.load false 1 (.t 64)) 57 false, og 66 (.not (.t 65)) 57 false, o 67 (.pick (.t 57) (kb true) (.t 66))]) (.cond (.t 67) (.seq (.reg false [] [] [o 4 (.mv (kb true))]) .ret) .skip)) (.seq (.reg false [] [] [o 68 (.load true 6 (.t 6)), o 69 (.build [(.int .i64 0), (.int .i64 0), (.int .i64 0), (.str ⟨#[]⟩), (.str ⟨#[]⟩), (.int .i64 0), (.str ⟨#[]⟩)] [(0, 1, (k 7))]), o 70 (.call 49 [.t 68, .t 69]), o 10 (.alloc [.nils, (.int .i64 0), (.int .i64 0), (.bool false), .nils, .nils]), on (.store 6 (.t 10) (.t 70))]) (.seq (.reg false [] [] [o 71 (.load true 6 (.t 10)), o 11 (.alloc [.nils, (.int .i64 0), (.int .i64 0), (.bool false), .nils, .nils]), on (.store 6 (.t 11) (.t 71))]) (.seq (.seq (.reg false [] [] [o 12 (.mv (k 0))]) (.blk 0 (.loop c17l0))) (.seq (.reg true [] [] [o 97 (.fadr 5 (.t 11)), od 98 (.load false 1 (.t 97)) [0], o 99 (.fadr 5 (.t 10)), od 100 (.load false 1 (.t 99)) [2], od 101 (.call 37 [.t 98, .t 100]) [1, 3], od 102 (.mv (.t 101)) [4, 4], odg 103 (.fadr 0 (.t 11)) 102 true [5], odg 104 (.load false 1 (.t 103)) 102 true [6, 5], odg 105 (.fadr 2 (.t 10)) 102 true [5], odg 106 (.load false 1 (.t 105)) 102 true [8, 5], odg 107 (.bin .sub (.t 106) (k 1)) 102 true [9, 5], odg 108 (.iadr 5 (.t 104) (.t 107)) 102 true [7, 10, 5], odg 109 (.load true 5 (.t 108)) 102 true [11, 5], odg 110 (.fadr 0 (.t 10)) 102 true [5], odg 111 (.load false 1 (.t 110)) 102 true [13, 5], odg 112 (.fadr 2 (.t 10)) 102 true [5], odg 113 (.load false 1 (.t 112)) 102 true [15, 5], odg 114 (.bin .sub (.t 113) (k 1)) 102 true [16, 5], odg 115 (.iadr 5 (.t 111) (.t 114)) 102 true [14, 17, 5], odg 116 (.load true 5 (.t 115)) 102 true [18, 5], odg 117 (.call 50 [.t 109, .t 116]) 102 true [12, 19, 5, 5], od 118 (.pick (.t 102) (.t 117) (kb false)) [5, 20], od 4 (.mv (.t 118)) [21, 20, 0, 1, 2, 3, 4, 5, 6, 7, 8, 9, 10, 11, 12, 13, 14, 15, 16, 17, 18, 19, 20, 21]]) .ret)))))))))))
theorem c17_ok : cC Tryz.prog (bodyOf Tryz.f17) = some c17 := by kernel_rfl
noncomputable def x18 : CodeOf Tryz.prog Tryz.f18 := ⟨_, rdc⟩
noncomputable def x19 : CodeOf Tryz.prog Tryz.f19 := ⟨_, rdc⟩
noncomputable def x20 : CodeOf Tryz.prog Tryz.f20 := ⟨_, rdc⟩
noncomputable def x21 : CodeOf Tryz.prog Tryz.f21 := ⟨_, rdc⟩
noncomputable def x33 : CodeOf Tryz.prog Tryz.f33 := ⟨_, rdc⟩
noncomputable def y33l0 : FoldOf (bodyL x33.c 0) [] := ⟨_, rdf⟩
noncomputable def c33l0 : C := (y33l0).c
noncomputable def y33 (v0 : C) : FoldOf x33.c [v0] := ⟨_, rdf⟩
noncomputable def c33 : C := (y33 c33l0).c
theorem c33_ok : cC Tryz.prog (bodyOf Tryz.f33) = some c33 := by kernel_rfl
noncomputable def x34 : CodeOf Tryz.prog Tryz.f34 := ⟨_, rdc⟩
noncomputable def y34l0 : FoldOf (bodyL x34.c 0) [] := ⟨_, rdf⟩
noncomputable def c34l0 : C := (y34l0).c
noncomputable def y34 (v0 : C) : FoldOf x34.c [v0] := ⟨_, rdf⟩
noncomputable def c34 : C := (y34 c34l0).c
theorem c34_ok : cC Tryz.prog (bodyOf Tryz.f34) = some c34 := by kernel_rfl
noncomputable def x35 : CodeOf Tryz.prog Tryz.f35 := ⟨_, rdc⟩
noncomputable def y35l0 : FoldOf (bodyL x35.c 0) [] := ⟨_, rdf⟩
noncomputable def c35l0 : C := (y35l0).c
noncomputable def y35 (v0 : C) : FoldOf x35.c [v0] := ⟨_, rdf⟩
noncomputable def c35 : C := (y35 c35l0).c
theorem c35_ok : cC Tryz.prog (bodyOf Tryz.f35) = some c35 := by kernel_rfl
noncomputable def x36 : CodeOf Tryz.prog Tryz.f36 := ⟨_, rdc⟩
noncomputable def y36l0 : FoldOf (bodyL x36.c 1) [] := ⟨_, rdf⟩
noncomputable def c36l0 : C := (y36l0).c
noncomputable def y36l1 (v0 : C) : FoldOf (bodyL x36.c 0) [v0] := ⟨_, rdf⟩
noncomputable def c36l1 : C := (y36l1 c36l0).c
noncomputable def y36 (v0 v1 : C) : FoldOf x36.c [v1, v0] := ⟨_, rdf⟩
noncomputable def c36 : C := (y36 c36l0 c36l1).c
theorem c36_ok : cC Tryz.prog (bodyOf Tryz.f36) = some c36 := by kernel_rfl
noncomputable def c37l0 : C := (.seq (.seq (.reg false [] [] [o 11 (.mv (.t 5)), o 12 (.mv (.t 0)), o 13 (.len (.t 12)), o 14 (.bin .lss (.t 11) (.t 13))]) (.cond (.t 14) .skip (.exit 0))) (.seq (.blk 1 (.seq (.reg true [] [] [o 17 (.mv (.t 0)), o 18 (.mv (.t 5)), od 19 (.iadr 5 (.t 17) (.t 18)) [0, 1], od 20 (.load true 5 (.t 19)) [2], o 21 (.mv (.t 1)), o 22 (.mv (.t 5)), od 23 (.iadr 5 (.t 21) (.t 22)) [4, 5], od 24 (.load true 5 (.t 23)) [6], od 25 (.eqa true [1, 2, 2, 1, 2] (.t 20) (.t 24)) [3, 7]]) (.cond (.t 25) (.seq (.reg false [] [] [o 4 (.mv (kb false))]) .ret) .skip))) (.reg false [] [] [o 15 (.mv (.t 5)), o 16 (.bin .add (.t 15) (k 1)), o 5 (.mv (.t 16))])))
noncomputable def c37 : C := (.seq (.reg false [] [] [o 4 (.mv (kb false))]) (.seq (.seq (.reg false [] [] [o 6 (.mv (.t 0)), o 7 (.len (.t 6)), o 8 (.mv (.t 1)), o 9 (.len (.t 8)), o 10 (.bin .neq (.t 7) (.t 9))]) (.cond (.t 10) (.seq (.reg false [] [] [o 4 (.mv (kb false))]) .ret) .skip)) (.seq (.seq (.reg false [] [] [o 5 (.mv (k 0))]) (.blk 0 (.loop c37l0))) (.seq (.reg false [] [] [o 4 (.mv (kb true))]) .ret))))
theorem c37_ok : cC Tryz.prog (bodyOf Tryz.f37) = some c37 := by kernel_rfl
noncomputable def x38 : CodeOf Tryz.prog Tryz.f38 := ⟨_, rdc⟩
noncomputable def x39 : CodeOf Tryz.prog Tryz.f39 := ⟨_, rdc⟩
noncomputable def x43 : CodeOf Tryz.prog Tryz.f43 := ⟨_, rdc⟩
noncomputable def x45 : CodeOf Tryz.prog Tryz.f45 := ⟨_, rdc⟩
noncomputable def x48 : CodeOf Tryz.prog Tryz.f48 := ⟨_, rdc⟩
noncomputable def x49 : CodeOf Tryz.prog Tryz.f49 := ⟨_, rdc⟩
noncomputable def x50 : CodeOf Tryz.prog Tryz.f50 := ⟨_, rdc⟩
noncomputable def x51 : CodeOf Tryz.prog Tryz.f51 := ⟨_, rdc⟩
noncomputable def y51l0 : FoldOf (bodyL x51.c 0) [] := ⟨_, rdf⟩
noncomputable def c51l0 : C := (y51l0).c
noncomputable def y51 (v0 : C) : FoldOf x51.c [v0] := ⟨_, rdf⟩
noncomputable def c51 : C := (y51 c51l0).c
theorem c51_ok : cC Tryz.prog (bodyOf Tryz.f51) = some c51 := by kernel_rfl
noncomputable def x55 : CodeOf Tryz.prog Tryz.f55 := ⟨_, rdc⟩
noncomputable def x58 : CodeOf Tryz.prog Tryz.f58 := ⟨_, rdc⟩
noncomputable def c59 : C := (.seq (.reg false [] [] [o 2 (.box (.t 0)), o 3 (.box (.t 1)), o 4 (.mv (kb false))]) (.seq (.reg false [] [] [o 5 (.fadr 0 (.t 2)), o 6 (.load false 1 (.t 5)), o 7 (.fadr 0 (.t 3)), o 8 (.load false 1 (.t 7)), o 9 (.bin .eql (.t 6) (.t 8)), o 10 (.mv (.t 9)), og 11 (.fadr 1 (.t 2)) 10 true, og 12 (.load false 1 (.t 11)) 10 true, og 13 (.fadr 1 (.t 3)) 10 true, og 14 (.load false 1 (.t 13)) 10 true, og 15 (.bin .eql (.t 12) (.t 14)) 10 true, o 16 (.pick (.t 10) (.t 15) (kb false)), o 17 (.mv (.t 16)), og 18 (.fadr 2 (.t 2)) 17 true, og 19 (.load false 1 (.t 18)) 17 true, og 20 (.fadr 2 (.t 3)) 17 true, og 21 (.load false 1 (.t 20)) 17 true, og 22 (.bin .eql (.t 19) (.t 21)) 17 true, o 23 (.pick (.t 17) (.t 22) (kb false)), o 24 (.mv (.t 23)), og 25 (.fadr 3 (.t 2)) 24 true, og 26 (.load false 1 (.t 25)) 24 true, og 27 (.fadr 3 (.t 3)) 24 true, og 28 (.load false 1 (.t 27)) 24 true, og 29 (.bin .eql (.t 26) (.t 28)) 24 true, o 30 (.pick (.t 24) (.t 29) (kb false)), o 31 (.mv (.t 30)), og 32 (.fadr 4 (.t 2)) 31 true, og 33 (.load true 5 (.t 32)) 31 true, og 34 (.fadr 4 (.t 3)) 31 true, og 35 (.load true 5 (.t 34)) 31 true, og 36 (.eqa false [1, 2, 2, 1, 2] (.t 33) (.t 35)) 31 true, o 37 (.pick (.t 31) (.t 36) (kb false)), o 38 (.mv (.t 37)), og 39 (.fadr 9 (.t 2)) 38 true, og 40 (.load false 1 (.t 39)) 38 true, og 41 (.fadr 9 (.t 3)) 38 true, og 42 (.load false 1 (.t 41)) 38 true, og 43 (.call 37 [.t 40, .t 42]) 38 true, o 44 (.pick (.t 38) (.t 43) (kb false)), o 4 (.mv (.t 44))]) .ret))
theorem c59_ok : cC Tryz.prog (bodyOf Tryz.f59) = some c59 := by kernel_rfl
noncomputable def x60 : CodeOf Tryz.prog Tryz.f60 := ⟨_, rdc⟩
end Go.Gn

namespace Go.Gn
open Go Go.Proofs
set_option maxRecDepth 100000
set_option maxHeartbeats 4000000
noncomputable def x72 : CodeOf Tryz.prog Tryz.f72 := ⟨_, rdc⟩
noncomputable def x73 : CodeOf Tryz.prog Tryz.f73 := ⟨_, rdc⟩
noncomputable def y73l0 : FoldOf (bodyL x73.c 0) [] := ⟨_, rdf⟩
noncomputable def c73l0 : C := (y73l0).c
noncomputable def y73 (v0 : C) : FoldOf x73.c [v0] := ⟨_, rdf⟩
noncomputable def c73 : C := (y73 c73l0).c
theorem c73_ok : cC Tryz.prog (bodyOf Tryz.f73) = some c73 := by kernel_rfl
noncomputable def x74 : CodeOf Tryz.prog Tryz.f74 := ⟨_, rdc⟩
noncomputable def x75 : CodeOf Tryz.prog Tryz.f75 := ⟨_, rdc⟩
noncomputable def x76 : CodeOf Tryz.prog Tryz.f76 := ⟨_, rdc⟩
noncomputable def x77 : CodeOf Tryz.prog Tryz.f77 := ⟨_, rdc⟩
noncomputable def x78 : CodeOf Tryz.prog Tryz.f78 := ⟨_, rdc⟩
noncomputable def x79 : CodeOf Tryz.prog Tryz.f79 := ⟨_, rdc⟩
noncomputable def y79l0 : FoldOf (bodyL x79.c 0) [] := ⟨_, rdf⟩
noncomputable def c79l0 : C := (y79l0).c
noncomputable def y79 (v0 : C) : FoldOf x79.c [v0] := ⟨_, rdf⟩
noncomputable def c79 : C := (y79 c79l0).c
theorem c79_ok : cC Tryz.prog (bodyOf Tryz.f79) = some c79 := by kernel_rfl
noncomputable def x80 : CodeOf Tryz.prog Tryz.f80 := ⟨_, rdc⟩
noncomputable def x81 : CodeOf Tryz.prog Tryz.f81 := ⟨_, rdc⟩
noncomputable def x82 : CodeOf Tryz.prog Tryz.f82 := ⟨_, rdc⟩
noncomputable def y82l0 : FoldOf (bodyL x82.c 2) [] := ⟨_, rdf⟩
noncomputable def c82l0 : C := (y82l0).c
noncomputable def y82l1 (v0 : C) : FoldOf (bodyL x82.c 1) [v0] := ⟨_, rdf⟩
noncomputable def c82l1 : C := (y82l1 c82l0).c
noncomputable def y82l2 (v0 v1 : C) : FoldOf (bodyL x82.c 0) [v1, v0] := ⟨_, rdf⟩
noncomputable def c82l2 : C := (y82l2 c82l0 c82l1).c
noncomputable def y82 (v0 v1 v2 : C) : FoldOf x82.c [v2, v1, v0] := ⟨_, rdf⟩
noncomputable def c82 : C := (y82 c82l0 c82l1 c82l2).c
theorem c82_ok : cC Tryz.prog (bodyOf Tryz.f82) = some c82 := by kernel_rfl
noncomputable def x83 : CodeOf Tryz.prog Tryz.f83 := ⟨_, rdc⟩
noncomputable def x84 : CodeOf Tryz.prog Tryz.f84 := ⟨_, rdc⟩
noncomputable def x86 : CodeOf Tryz.prog Tryz.f86 := ⟨_, rdc⟩
noncomputable def x89 : CodeOf Tryz.prog Tryz.f89 := ⟨_, rdc⟩
noncomputable def y89l0 : FoldOf (bodyL x89.c 0) [] := ⟨_, rdf⟩
noncomputable def c89l0 : C := (y89l0).c
noncomputable def y89 (v0 : C) : FoldOf x89.c [v0] := ⟨_, rdf⟩
noncomputable def c89 : C := (y89 c89l0).c
theorem c89_ok : cC Tryz.prog (bodyOf Tryz.f89) = some c89 := by kernel_rfl
noncomputable def x90 : CodeOf Tryz.prog Tryz.f90 := ⟨_, rdc⟩
noncomputable def x91 : CodeOf Tryz.prog Tryz.f91 := ⟨_, rdc⟩
noncomputable def x92 : CodeOf Tryz.prog Tryz.f92 := ⟨_, rdc⟩
noncomputable def x93 : CodeOf Tryz.prog Tryz.f93 := ⟨_, rdc⟩
noncomputable def x94 : CodeOf Tryz.prog Tryz.f94 := ⟨_, rdc⟩
noncomputable def c95 : C := (.seq (.reg false [] [] [o 1 (.box (.t 0)), o 2 (.mv (kb false))]) (.seq (.seq (.reg false [] [] [o 3 (.fadr 1 (.t 1)), o 4 (.load false 1 (.t 3)), o 5 (.call 91 [.t 4]), o 6 (.not (.t 5)), o 7 (.mv (.t 6)), og 8 (.fadr 2 (.t 1)) 7 false, og 9 (.load false 1 (.t 8)) 7 false, og 10 (.call 83 [.t 9]) 7 false, og 11 (.not (.t 10)) 7 false, o 12 (.pick (.t 7) (kb true) (.t 11)), o 13 (.mv (.t 12)), og 14 (.fadr 3 (.t 1)) 13 false, og 15 (.load false 1 (.t 14)) 13 false, og 16 (.call 90 [.t 15, (k 0), (k 20)]) 13 false, og 17 (.not (.t 16)) 13 false, o 18 (.pick (.t 13) (kb true) (.t 17))]) (.cond (.t 18) (.seq (.reg false [] [] [o 2 (.mv (kb false))]) .ret) .skip)) (.seq (.seq (.reg false [] [] [o 19 (.fadr 0 (.t 1)), o 20 (.load false 1 (.t 19))]) (.blk 0 (.seq (.reg false [] [] [o 22 (.bin .eql (.t 20) (k 1)), o 21 (.mv (.t 22))]) (.cond (.t 21) (.seq (.reg false [] [] [o 23 (.fadr 4 (.t 1)), o 24 (.load true 5 (.t 23)), o 25 (.call 106 [.t 24]), o 26 (.mv (.t 25)), og 27 (.fadr 3 (.t 1)) 26 true, og 28 (.load false 1 (.t 27)) 26 true, og 29 (.bin .geq (.t 28) (k 1)) 26 true, o 30 (.pick (.t 26) (.t 29) (kb false)), o 31 (.mv (.t 30)), og 32 (.fadr 9 (.t 1)) 31 true, og 33 (.load false 1 (.t 32)) 31 true, og 34 (.len (.t 33)) 31 true, og 35 (.bin .eql (.t 34) (k 0)) 31 true, o 36 (.pick (.t 31) (.t 35) (kb false)), o 2 (.mv (.t 36))]) .ret) (.seq (.seq (.reg false [] [] [o 38 (.bin .eql (.t 20) (k 2)), o 37 (.mv (.t 38))]) (.cond (.t 37) .skip (.reg false [] [] [o 39 (.bin .eql (.t 20) (k 4)), o 37 (.mv (.t 39))]))) (.cond (.t 37) (.seq (.reg false [] [] [o 40 (.fadr 4 (.t 1)), o 41 (.load true 5 (.t 40)), o 42 (.build [(.int .i64 0), (.str ⟨#[]⟩), (.str ⟨#[]⟩), (.int .i64 0), (.str ⟨#[]⟩)] []), o 43 (.eqa false [1, 2, 2, 1, 2] (.t 41) (.t 42)), o 44 (.mv (.t 43)), og 45 (.fadr 9 (.t 1)) 44 true, og 46 (.load false 1 (.t 45)) 44 true, og 47 (.len (.t 46)) 44 true, og 48 (.bin .eql (.t 47) (k 0)) 44 true, o 49 (.pick (.t 44) (.t 48) (kb false)), o 2 (.mv (.t 49))]) .ret) (.seq (.reg false [] [] [o 51 (.bin .eql (.t 20) (k 3)), o 50 (.mv (.t 51))]) (.cond (.t 50) (.seq (.reg false [] [] [o 52 (.fadr 4 (.t 1)), o 53 (.load true 5 (.t 52)), o 54 (.build [(.int .i64 0), (.str ⟨#[]⟩), (.str ⟨#[]⟩), (.int .i64 0), (.str ⟨#[]⟩)] []), o 55 (.eqa false [1, 2, 2, 1, 2] (.t 53) (.t 54)), o 56 (.mv (.t 55)), og 57 (.fadr 9 (.t 1)) 56 true, og 58 (.load false 1 (.t 57)) 56 true, og 59 (.len (.t 58)) 56 true, og 60 (.fadr 3 (.t 1)) 56 true, og 61 (.load false 1 (.t 60)) 56 true, og 62 (.bin .eql (.t 59) (.t 61)) 56 true, o 63 (.pick (.t 56) (.t 62) (kb false)), o 64 (.mv (.t 63)), og 65 (.fadr 9 (.t 1)) 64 true, og 66 (.load false 1 (.t 65)) 64 true, og 67 (.call 84 [.t 66]) 64 true, o 68 (.pick (.t 64) (.t 67) (kb false)), o 2 (.mv (.t 68))]) .ret) .skip)))))))) (.seq (.reg false [] [] [o 2 (.mv (kb false))]) .ret))))
theorem c95_ok : cC Tryz.prog (bodyOf Tryz.f95) = some c95 := by kernel_rfl
noncomputable def x96 : CodeOf Tryz.prog Tryz.f96 := ⟨_, rdc⟩
noncomputable def x97 : CodeOf Tryz.prog Tryz.f97 := ⟨_, rdc⟩
noncomputable def y97l0 : FoldOf (bodyL x97.c 1) [] := ⟨_, rdf⟩
noncomputable def c97l0 : C := (y97l0).c
noncomputable def y97l1 (v0 : C) : FoldOf (bodyL x97.c 0) [v0] := ⟨_, rdf⟩
noncomputable def c97l1 : C := (y97l1 c97l0).c
noncomputable def y97 (v0 v1 : C) : FoldOf x97.c [v1, v0] := ⟨_, rdf⟩
noncomputable def c97 : C := (y97 c97l0 c97l1).c
theorem c97_ok : cC Tryz.prog (bodyOf Tryz.f97) = some c97 := by kernel_rfl
noncomputable def x98 : CodeOf Tryz.prog Tryz.f98 := ⟨_, rdc⟩
noncomputable def y98l0 : FoldOf (bodyL x98.c 0) [] := ⟨_, rdf⟩
noncomputable def c98l0 : C := (y98l0).c
noncomputable def y98 (v0 : C) : FoldOf x98.c [v0] := ⟨_, rdf⟩
noncomputable def c98 : C := (y98 c98l0).c
theorem c98_ok : cC Tryz.prog (bodyOf Tryz.f98) = some c98 := by kernel_rfl
noncomputable def x100 : CodeOf Tryz.prog Tryz.f100 := ⟨_, rdc⟩
noncomputable def c106 : C := (.seq (.reg false [] [] [o 1 (.box (.t 0)), o 2 (.mv (kb false))]) (.seq (.reg false [] [] [o 5 (.fadr 0 (.t 1)), o 6 (.load false 1 (.t 5)), o 7 (.fadr 1 (.t 1)), o 8 (.load false 1 (.t 7)), o 9 (.build [(.int .i64 0), (.str ⟨#[]⟩), (.str ⟨#[]⟩), (.int .i64 0), (.str ⟨#[]⟩)] [(0, 1, (.t 6)), (1, 1, (.t 8))]), o 3 (.alloc [(.int .i64 0), (.str ⟨#[]⟩), (.str ⟨#[]⟩), (.int .i64 0), (.str ⟨#[]⟩)]), on (.store 5 (.t 3) (.t 9))]) (.seq (.reg false [] [] [o 4 (.mv (kb false))]) (.seq (.seq (.reg false [] [] [o 10 (.fadr 0 (.t 1)), o 11 (.load false 1 (.t 10))]) (.blk 0 (.seq (.reg false [] [] [o 13 (.bin .eql (.t 11) (k 1)), o 12 (.mv (.t 13))]) (.cond (.t 12) (.seq (.reg false [] [] [o 14 (.fadr 3 (.t 1)), o 15 (.load false 1 (.t 14)), o 16 (.fadr 3 (.t 3)), on (.store 1 (.t 16) (.t 15))]) (.reg false [] [] [o 17 (.fadr 3 (.t 1)), o 18 (.load false 1 (.t 17)), o 19 (.call 90 [.t 18, (k 1), (k 6)]), o 4 (.mv (.t 19))])) (.seq (.reg false [] [] [o 21 (.bin .eql (.t 11) (k 2)), o 20 (.mv (.t 21))]) (.cond (.t 20) (.seq (.reg true [(3, 6)] [] [o 22 (.fadr 3 (.t 1)), od 23 (.load false 1 (.t 22)) [0], o 24 (.fadr 4 (.t 1)), od 25 (.load false 1 (.t 24)) [2], od 26 (.fadr 3 (.t 3)) [0, 1], ⟨none, (.store 1 (.t 26) (.t 23)), none, [4, 1, 0, 1]⟩, od 27 (.fadr 4 (.t 3)) [0, 1, 2, 3, 4, 5], ⟨none, (.store 1 (.t 27) (.t 25)), none, [6, 3, 5, 0, 1, 2, 3, 4, 5]⟩]) (.reg false [] [] [o 28 (.fadr 3 (.t 1)), o 29 (.load false 1 (.t 28)), o 30 (.call 90 [.t 29, (k 0), (k 5)]), o 31 (.mv (.t 30)), og 32 (.fadr 4 (.t 1)) 31 true, og 33 (.load false 1 (.t 32)) 31 true, og 34 (.call 162 [.t 33]) 31 true, o 35 (.pick (.t 31) (.t 34) (kb false)), o 4 (.mv (.t 35))])) (.seq (.reg false [] [] [o 37 (.bin .eql (.t 11) (k 3)), o 36 (.mv (.t 37))]) (.cond (.t 36) (.seq (.reg false [] [] [o 38 (.fadr 2 (.t 1)), o 39 (.load false 1 (.t 38)), o 40 (.fadr 2 (.t 3)), on (.store 1 (.t 40) (.t 39))]) (.reg false [] [] [o 41 (.fadr 2 (.t 1)), o 42 (.load false 1 (.t 41)), o 43 (.call 163 [.t 42]), o 4 (.mv (.t 43))])) (.seq (.reg false [] [] [o 45 (.bin .eql (.t 11) (k 4)), o 44 (.mv (.t 45))]) (.cond (.t 44) (.reg false [] [] [o 4 (.mv (kb true))]) .skip)))))))))) (.seq (.reg false [] [] [o 46 (.mv (.t 4)), o 47 (.mv (.t 46)), og 48 (.fadr 1 (.t 1)) 47 true, og 49 (.load false 1 (.t 48)) 47 true, og 50 (.call 163 [.t 49]) 47 true, o 51 (.pick (.t 47) (.t 50) (kb false)), o 52 (.mv (.t 51)), og 53 (.load true 5 (.t 1)) 52 true, og 54 (.load true 5 (.t 3)) 52 true, og 55 (.eqa false [1, 2, 2, 1, 2] (.t 53) (.t 54)) 52 true, o 56 (.pick (.t 52) (.t 55) (kb false)), o 2 (.mv (.t 56))]) .ret)))))
theorem c106_ok : cC Tryz.prog (bodyOf Tryz.f106) = some c106 := by kernel_rfl
noncomputable def x107 : CodeOf Tryz.prog Tryz.f107 := ⟨_, rdc⟩
noncomputable def x108 : CodeOf Tryz.prog Tryz.f108 := ⟨_, rdc⟩
noncomputable def x109 : CodeOf Tryz.prog Tryz.f109 := ⟨_, rdc⟩
noncomputable def x110 : CodeOf Tryz.prog Tryz.f110 := ⟨_, rdc⟩
noncomputable def x111 : CodeOf Tryz.prog Tryz.f111 := ⟨_, rdc⟩
noncomputable def x112 : CodeOf Tryz.prog Tryz.f112 := ⟨_, rdc⟩
noncomputable def x113 : CodeOf Tryz.prog Tryz.f113 := ⟨_, rdc⟩
noncomputable def c114 : C := (.seq (.reg false [] [] [o 3 (.box (.t 1)), o 4 (.mv (kb false))]) (.seq (.seq (.reg true [] [] [o 5 (.fadr 2 (.t 3)), od 6 (.load false 1 (.t 5)) [0], o 7 (.mv (.t 0)), od 8 (.nilc (.t 7)) [2], od 9 (.fadr 1 (.t 8)) [3], od 10 (.load false 1 (.t 9)) [4], od 11 (.bin .neq (.t 6) (.t 10)) [1, 5], od 12 (.mv (.t 11)) [6], odg 13 (.mv (.t 0)) 12 false [7], odg 14 (.nilc (.t 13)) 12 false [8, 7], odg 15 (.fadr 2 (.t 14)) 12 false [9, 7], odg 16 (.load false 1 (.t 15)) 12 false [10, 7], od 17 (.pick (.t 12) (kb true) (.t 16)) [7, 11]]) (.cond (.t 17) (.seq (.reg false [] [] [o 4 (.mv (kb false))]) .ret) .skip)) (.seq (.seq (.reg true [] [] [o 18 (.mv (.t 0)), od 19 (.nilc (.t 18)) [0], od 20 (.fadr 4 (.t 19)) [1], od 21 (.load false 1 (.t 20)) [2], od 22 (.len (.t 21)) [3], o 23 (.fadr 3 (.t 3)), od 24 (.load false 1 (.t 23)) [5], od 25 (.bin .geq (.t 22) (.t 24)) [4, 6]]) (.cond (.t 25) (.seq (.reg true [] [] [o 26 (.mv (.t 0)), od 27 (.nilc (.t 26)) [0], od 28 (.fadr 4 (.t 27)) [1], od 29 (.load false 1 (.t 28)) [2], o 30 (.fadr 3 (.t 3)), od 31 (.load false 1 (.t 30)) [4], od 32 (.bin .sub (.t 31) (k 1)) [5], od 33 (.iadr 5 (.t 29) (.t 32)) [3, 6], od 34 (.load true 5 (.t 33)) [7], o 35 (.fadr 4 (.t 3)), od 36 (.load true 5 (.t 35)) [9], od 37 (.eqa false [1, 2, 2, 1, 2] (.t 34) (.t 36)) [8, 10], od 4 (.mv (.t 37)) [11, 0, 1, 2, 3, 4, 5, 6, 7, 8, 9, 10, 11]]) .ret) .skip)) (.seq (.seq (.reg true [] [] [o 38 (.mv (.t 0)), od 39 (.nilc (.t 38)) [0], od 40 (.fadr 4 (.t 39)) [1], od 41 (.load false 1 (.t 40)) [2], od 42 (.len (.t 41)) [3], o 43 (.fadr 3 (.t 3)), od 44 (.load false 1 (.t 43)) [5], od 45 (.bin .sub (.t 44) (k 1)) [6], od 46 (.bin .neq (.t 42) (.t 45)) [4, 7], od 47 (.mv (.t 46)) [8], odg 48 (.mv (.t 0)) 47 false [9], odg 49 (.nilc (.t 48)) 47 false [10, 9], odg 50 (.load true 5 (.t 49)) 47 false [11, 9], odg 51 (.fadr 4 (.t 3)) 47 false [9], odg 52 (.load true 5 (.t 51)) 47 false [13, 9], odg 53 (.call 113 [.t 50, .t 52]) 47 false [12, 14, 9, 9], odg 54 (.not (.t 53)) 47 false [15, 9], od 55 (.pick (.t 47) (kb true) (.t 54)) [9, 16]]) (.cond (.t 55) (.seq (.reg false [] [] [o 4 (.mv (kb false))]) .ret) .skip)) (.seq (.reg true [(4, 8)] [] [o 56 (.mv (.t 0)), o 57 (.mv (.t 0)), od 58 (.nilc (.t 57)) [1], od 59 (.fadr 4 (.t 58)) [2], od 60 (.load false 1 (.t 59)) [3], o 61 (.fadr 4 (.t 3)), od 62 (.load true 5 (.t 61)) [5], od 63 (.mks 5 1 [(.int .i64 0), (.str ⟨#[]⟩), (.str ⟨#[]⟩), (.int .i64 0), (.str ⟨#[]⟩)] [(0, 5, (.t 62))]) [6], od 64 (.app 5 64 [(.int .i64 0), (.str ⟨#[]⟩), (.str ⟨#[]⟩), (.int .i64 0), (.str ⟨#[]⟩)] (.t 60) (.t 63)) [4, 7], od 65 (.nilc (.t 56)) [0, 0, 1, 2, 3, 4, 5, 6, 7, 8], od 66 (.fadr 4 (.t 65)) [9, 0, 1, 2, 3, 4, 5, 6, 7, 8], ⟨none, (.store 1 (.t 66) (.t 64)), none, [10, 8, 8, 0, 1, 2, 3, 4, 5, 6, 7, 8]⟩]) (.seq (.reg false [] [] [o 4 (.mv (kb true))]) .ret))))))
theorem c114_ok : cC Tryz.prog (bodyOf Tryz.f114) = some c114 := by kernel_rfl
noncomputable def x115 : CodeOf Tryz.prog Tryz.f115 := ⟨_, rdc⟩
noncomputable def x135 : CodeOf Tryz.prog Tryz.f135 := ⟨_, rdc⟩
noncomputable def x136 : CodeOf Tryz.prog Tryz.f136 := ⟨_, rdc⟩
noncomputable def x137 : CodeOf Tryz.prog Tryz.f137 := ⟨_, rdc⟩
noncomputable def x138 : CodeOf Tryz.prog Tryz.f138 := ⟨_, rdc⟩
noncomputable def x139 : CodeOf Tryz.prog Tryz.f139 := ⟨_, rdc⟩
noncomputable def x140 : CodeOf Tryz.prog Tryz.f140 := ⟨_, rdc⟩
noncomputable def x141 : CodeOf Tryz.prog Tryz.f141 := ⟨_, rdc⟩
noncomputable def x142 : CodeOf Tryz.prog Tryz.f142 := ⟨_, rdc⟩
noncomputable def x143 : CodeOf Tryz.prog Tryz.f143 := ⟨_, rdc⟩
noncomputable def x144 : CodeOf Tryz.prog Tryz.f144 := ⟨_, rdc⟩
noncomputable def x145 : CodeOf Tryz.prog Tryz.f145 := ⟨_, rdc⟩
noncomputable def x146 : CodeOf Tryz.prog Tryz.f146 := ⟨_, rdc⟩
noncomputable def x147 : CodeOf Tryz.prog Tryz.f147 := ⟨_, rdc⟩
noncomputable def x148 : CodeOf Tryz.prog Tryz.f148 := ⟨_, rdc⟩
noncomputable def y148l0 : FoldOf (bodyL x148.c 0) [] := ⟨_, rdf⟩
noncomputable def c148l0 : C := (y148l0).c
noncomputable def y148 (v0 : C) : FoldOf x148.c [v0] := ⟨_, rdf⟩
noncomputable def c148 : C := (y148 c148l0).c
theorem c148_ok : cC Tryz.prog (bodyOf Tryz.f148) = some c148 := by kernel_rfl
noncomputable def x149 : CodeOf Tryz.prog Tryz.f149 := ⟨_, rdc⟩
noncomputable def y149l0 : FoldOf (bodyL x149.c 0) [] := ⟨_, rdf⟩
noncomputable def c149l0 : C := (y149l0).c
noncomputable def y149 (v0 : C) : FoldOf x149.c [v0] := ⟨_, rdf⟩
noncomputable def c149 : C := (y149 c149l0).c
theorem c149_ok : cC Tryz.prog (bodyOf Tryz.f149) = some c149 := by kernel_rfl
noncomputable def x150 : CodeOf Tryz.prog Tryz.f150 := ⟨_, rdc⟩
noncomputable def y150l0 : FoldOf (bodyL x150.c 0) [] := ⟨_, rdf⟩
noncomputable def c150l0 : C := (y150l0).c
noncomputable def y150 (v0 : C) : FoldOf x150.c [v0] := ⟨_, rdf⟩
noncomputable def c150 : C := (y150 c150l0).c
theorem c150_ok : cC Tryz.prog (bodyOf Tryz.f150) = some c150 := by kernel_rfl
noncomputable def x152 : CodeOf Tryz.prog Tryz.f152 := ⟨_, rdc⟩
noncomputable def y152l0 : FoldOf (bodyL x152.c 0) [] := ⟨_, rdf⟩
noncomputable def c152l0 : C := (y152l0).c
noncomputable def y152 (v0 : C) : FoldOf x152.c [v0] := ⟨_, rdf⟩
noncomputable def c152 : C := (y152 c152l0).c
theorem c152_ok : cC Tryz.prog (bodyOf Tryz.f152) = some c152 := by kernel_rfl
noncomputable def x153 : CodeOf Tryz.prog Tryz.f153 := ⟨_, rdc⟩
noncomputable def x154 : CodeOf Tryz.prog Tryz.f154 := ⟨_, rdc⟩
noncomputable def y154l0 : FoldOf (bodyL x154.c 0) [] := ⟨_, rdf⟩
noncomputable def c154l0 : C := (y154l0).c
noncomputable def y154 (v0 : C) : FoldOf x154.c [v0] := ⟨_, rdf⟩
noncomputable def c154 : C := (y154 c154l0).c
theorem c154_ok : cC Tryz.prog (bodyOf Tryz.f154) = some c154 := by kernel_rfl
noncomputable def c155 : C := (.seq (.reg false [] [] [o 3 (.box (.t 1)), o 4 (.mv (kb false))]) (.seq (.reg true [(10, 0)] [] [o 7 (.mv (.t 0)), o 8 (.mv (.t 0)), od 9 (.nilc (.t 8)) [1], od 10 (.fadr 2 (.t 9)) [2], od 11 (.load false 1 (.t 10)) [3], od 12 (.call 138 [.t 7, .t 11]) [0, 4], o 13 (.mv (.t 0)), o 14 (.mv (.t 0)), od 15 (.nilc (.t 14)) [7], od 16 (.fadr 2 (.t 15)) [8], od 17 (.load false 1 (.t 16)) [9], od 18 (.bin .sub (k 3) (.t 17)) [10], od 19 (.call 138 [.t 13, .t 18]) [6, 11, 5], od 5 (.mv (.t 12)) [5, 12, 0, 1, 2, 3, 4, 5], od 6 (.mv (.t 19)) [12, 13, 0, 1, 2, 3, 4, 5, 6, 7, 8, 9, 10, 11, 12, 13]]) (.seq (.seq (.reg false [] [] [o 20 (.fadr 0 (.t 3)), o 21 (.load false 1 (.t 20))]) (.blk 0 (.seq (.seq (.reg false [] [] [o 23 (.bin .eql (.t 21) (k 2)), o 22 (.mv (.t 23))]) (.cond (.t 22) .skip (.reg false [] [] [o 24 (.bin .eql (.t 21) (k 4)), o 22 (.mv (.t 24))]))) (.cond (.t 22) (.seq (.reg true [] [] [o 25 (.fadr 1 (.t 3)), od 26 (.load false 1 (.t 25)) [0], o 27 (.mv (.t 0)), od 28 (.nilc (.t 27)) [2], od 29 (.fadr 2 (.t 28)) [3], od 30 (.load false 1 (.t 29)) [4], od 31 (.bin .eql (.t 26) (.t 30)) [1, 5], od 32 (.mv (.t 31)) [6], odg 33 (.mv (.t 6)) 32 true [7], odg 34 (.nilc (.t 33)) 32 true [8, 7], odg 35 (.fadr 1 (.t 34)) 32 true [9, 7], odg 36 (.load false 1 (.t 35)) 32 true [10, 7], odg 37 (.mv (.t 0)) 32 true [7], odg 38 (.nilc (.t 37)) 32 true [12, 7], odg 39 (.fadr 1 (.t 38)) 32 true [13, 7], odg 40 (.load false 1 (.t 39)) 32 true [14, 7], odg 41 (.bin .eql (.t 36) (.t 40)) 32 true [11, 15, 7], od 42 (.pick (.t 32) (.t 41) (kb false)) [7, 16], od 43 (.mv (.t 42)) [17, 7], odg 44 (.mv (.t 6)) 43 true [18], odg 45 (.nilc (.t 44)) 43 true [19, 18], odg 46 (.fadr 4 (.t 45)) 43 true [20, 18], odg 47 (.load false 1 (.t 46)) 43 true [21, 18], odg 48 (.len (.t 47)) 43 true [22, 18], odg 49 (.fadr 3 (.t 3)) 43 true [18], odg 50 (.load false 1 (.t 49)) 43 true [24, 18], odg 51 (.bin .geq (.t 48) (.t 50)) 43 true [23, 25, 18], od 52 (.pick (.t 43) (.t 51) (kb false)) [18, 26], od 4 (.mv (.t 52)) [27, 18, 0, 1, 2, 3, 4, 5, 6, 7, 8, 9, 10, 11, 12, 13, 14, 15, 16, 17, 18, 19, 20, 21, 22, 23, 24, 25, 26, 27]]) .ret) (.seq (.reg false [] [] [o 54 (.bin .eql (.t 21) (k 1)), o 53 (.mv (.t 54))]) (.cond (.t 53) (.seq (.reg true [] [] [o 55 (.fadr 1 (.t 3)), od 56 (.load false 1 (.t 55)) [0], o 57 (.mv (.t 0)), od 58 (.nilc (.t 57)) [2], od 59 (.fadr 2 (.t 58)) [3], od 60 (.load false 1 (.t 59)) [4], od 61 (.bin .neq (.t 56) (.t 60)) [1, 5], od 62 (.mv (.t 61)) [6], odg 63 (.fadr 3 (.t 3)) 62 true [7], odg 64 (.load false 1 (.t 63)) 62 true [8, 7], odg 65 (.mv (.t 5)) 62 true [7], odg 66 (.nilc (.t 65)) 62 true [10, 7], odg 67 (.fadr 4 (.t 66)) 62 true [11, 7], odg 68 (.load false 1 (.t 67)) 62 true [12, 7], odg 69 (.len (.t 68)) 62 true [13, 7], odg 70 (.bin .leq (.t 64) (.t 69)) 62 true [9, 14, 7], od 71 (.pick (.t 62) (.t 70) (kb false)) [7, 15], od 72 (.mv (.t 71)) [16, 7], odg 73 (.mv (.t 5)) 72 true [17], odg 74 (.nilc (.t 73)) 72 true [18, 17], odg 75 (.fadr 4 (.t 74)) 72 true [19, 17], odg 76 (.load false 1 (.t 75)) 72 true [20, 17], odg 77 (.fadr 3 (.t 3)) 72 true [17], odg 78 (.load false 1 (.t 77)) 72 true [22, 17], odg 79 (.bin .sub (.t 78) (k 1)) 72 true [23, 17], odg 80 (.iadr 5 (.t 76) (.t 79)) 72 true [21, 24, 17], odg 81 (.load true 5 (.t 80)) 72 true [25, 17], odg 82 (.fadr 4 (.t 3)) 72 true [17], odg 83 (.load true 5 (.t 82)) 72 true [27, 17], odg 84 (.eqa false [1, 2, 2, 1, 2] (.t 81) (.t 83)) 72 true [26, 28, 17], od 85 (.pick (.t 72) (.t 84) (kb false)) [17, 29], od 4 (.mv (.t 85)) [30, 17, 0, 1, 2, 3, 4, 5, 6, 7, 8, 9, 10, 11, 12, 13, 14, 15, 16, 17, 18, 19, 20, 21, 22, 23, 24, 25, 26, 27, 28, 29, 30]]) .ret) .skip)))))) (.seq (.reg true [] [] [o 86 (.fadr 1 (.t 3)), od 87 (.load false 1 (.t 86)) [0], o 88 (.mv (.t 0)), od 89 (.nilc (.t 88)) [2], od 90 (.fadr 2 (.t 89)) [3], od 91 (.load false 1 (.t 90)) [4], od 92 (.bin .neq (.t 87) (.t 91)) [1, 5], od 93 (.mv (.t 92)) [6], odg 94 (.fadr 9 (.t 3)) 93 true [7], odg 95 (.load false 1 (.t 94)) 93 true [8, 7], odg 96 (.mv (.t 5)) 93 true [7], odg 97 (.nilc (.t 96)) 93 true [10, 7], odg 98 (.fadr 4 (.t 97)) 93 true [11, 7], odg 99 (.load false 1 (.t 98)) 93 true [12, 7], odg 100 (.call 153 [.t 95, .t 99]) 93 true [9, 13, 7, 7], od 101 (.pick (.t 93) (.t 100) (kb false)) [7, 14], od 4 (.mv (.t 101)) [15, 14, 0, 1, 2, 3, 4, 5, 6, 7, 8, 9, 10, 11, 12, 13, 14, 15]]) .ret))))
theorem c155_ok : cC Tryz.prog (bodyOf Tryz.f155) = some c155 := by kernel_rfl
noncomputable def x157 : CodeOf Tryz.prog Tryz.f157 := ⟨_, rdc⟩
noncomputable def c158 : C := (.seq (.reg false [] [] [o 2 (.alloc [(.int .i64 0), (.str ⟨#[]⟩), (.str ⟨#[]⟩), (.int .i64 0), (.str ⟨#[]⟩)])]) (.seq (.reg false [] [] [o 4 (.mv (.t 0)), o 5 (.mks 1 4 [(.str ⟨#[]⟩)] [(0, 1, (.c (.str ⟨#[65]⟩))), (1, 1, (.c (.str ⟨#[66]⟩))), (2, 1, (.c (.str ⟨#[67]⟩))), (3, 1, (.c (.str ⟨#[68]⟩)))]), o 6 (.call 196 [.t 4, .t 5]), o 7 (.mv (.t 0)), o 8 (.call 74 [.t 7, (k 3)]), o 9 (.mv (.t 0)), o 10 (.call 197 [.t 9]), o 11 (.build [(.int .i64 0), (.str ⟨#[]⟩), (.str ⟨#[]⟩), (.int .i64 0), (.str ⟨#[]⟩)] [(0, 1, (k 2)), (1, 1, (.t 6)), (3, 1, (.t 8)), (4, 1, (.t 10))]), o 3 (.alloc [(.int .i64 0), (.str ⟨#[]⟩), (.str ⟨#[]⟩), (.int .i64 0), (.str ⟨#[]⟩)]), on (.store 5 (.t 3) (.t 11))]) (.seq (.seq (.reg false [] [] [o 12 (.mv (.t 0)), o 13 (.call 74 [.t 12, (k 12)])]) (.blk 0 (.seq (.seq (.reg false [] [] [o 15 (.bin .eql (.t 13) (k 0)), o 14 (.mv (.t 15))]) (.cond (.t 14) .skip (.reg false [] [] [o 16 (.bin .eql (.t 13) (k 1)), o 14 (.mv (.t 16))]))) (.cond (.t 14) (.reg true [(1, 4)] [] [o 17 (.fadr 1 (.t 3)), od 18 (.load false 1 (.t 17)) [0], o 19 (.mv (.t 0)), od 20 (.call 74 [.t 19, (k 6)]) [2], od 21 (.bin .add (k 1) (.t 20)) [3], od 22 (.build [(.int .i64 0), (.str ⟨#[]⟩), (.str ⟨#[]⟩), (.int .i64 0), (.str ⟨#[]⟩)] [(0, 1, (k 1)), (1, 1, (.t 18)), (3, 1, (.t 21))]) [1, 4], ⟨none, (.store 5 (.t 3) (.t 22)), none, [5, 3, 0, 1, 2, 3, 4, 5]⟩]) (.seq (.reg false [] [] [o 24 (.bin .eql (.t 13) (k 2)), o 23 (.mv (.t 24))]) (.cond (.t 23) (.reg true [(1, 4), (1, 5)] [] [o 25 (.fadr 1 (.t 3)), od 26 (.load false 1 (.t 25)) [0], o 27 (.mv (.t 0)), o 28 (.mks 1 4 [(.str ⟨#[]⟩)] [(0, 1, (.c (.str ⟨#[65]⟩))), (1, 1, (.c (.str ⟨#[66]⟩))), (2, 1, (.c (.str ⟨#[67]⟩))), (3, 1, (.c (.str ⟨#[68]⟩)))]), od 29 (.call 196 [.t 27, .t 28]) [2, 3], od 30 (.build [(.int .i64 0), (.str ⟨#[]⟩), (.str ⟨#[]⟩), (.int .i64 0), (.str ⟨#[]⟩)] [(0, 1, (k 3)), (1, 1, (.t 26)), (2, 1, (.t 29))]) [1, 4], ⟨none, (.store 5 (.t 3) (.t 30)), none, [5, 4, 0, 1, 2, 3, 4, 5]⟩]) (.seq (.reg false [] [] [o 32 (.bin .eql (.t 13) (k 3)), o 31 (.mv (.t 32))]) (.cond (.t 31) (.reg false [] [] [o 33 (.fadr 1 (.t 3)), o 34 (.load false 1 (.t 33)), o 35 (.build [(.int .i64 0), (.str ⟨#[]⟩), (.str ⟨#[]⟩), (.int .i64 0), (.str ⟨#[]⟩)] [(0, 1, (k 4)), (1, 1, (.t 34))]), on (.store 5 (.t 3) (.t 35))]) .skip)))))))) (.seq (.seq (.reg false [] [] [o 36 (.mv (.t 0)), o 37 (.call 74 [.t 36, (k 30)])]) (.blk 1 (.seq (.reg false [] [] [o 39 (.bin .eql (.t 37) (k 0)), o 38 (.mv (.t 39))]) (.cond (.t 38) (.reg false [] [] [o 40 (.mv (.t 0)), o 41 (.mks 1 3 [(.str ⟨#[]⟩)] [(0, 1, (.c (.str ⟨#[]⟩))), (1, 1, (.c (.str ⟨#[69]⟩))), (2, 1, (.c (.str ⟨#[65, 65]⟩)))]), o 42 (.call 196 [.t 40, .t 41]), o 43 (.fadr 1 (.t 3)), on (.store 1 (.t 43) (.t 42))]) (.seq (.reg false [] [] [o 45 (.bin .eql (.t 37) (k 1)), o 44 (.mv (.t 45))]) (.cond (.t 44) (.reg false [] [] [o 46 (.mv (.t 0)), o 47 (.call 74 [.t 46, (k 9)]), o 48 (.bin .sub (.t 47) (k 1)), o 49 (.fadr 3 (.t 3)), on (.store 1 (.t 49) (.t 48))]) (.seq (.reg false [] [] [o 51 (.bin .eql (.t 37) (k 2)), o 50 (.mv (.t 51))]) (.cond (.t 50) (.reg false [] [] [o 52 (.mv (.t 0)), o 53 (.call 74 [.t 52, (k 6)]), o 54 (.fadr 0 (.t 3)), on (.store 1 (.t 54) (.t 53))]) .skip)))))))) (.seq (.reg false [] [] [o 55 (.load true 5 (.t 3)), on (.store 5 (.t 2) (.t 55))]) .ret)))))
theorem c158_ok : cC Tryz.prog (bodyOf Tryz.f158) = some c158 := by kernel_rfl
noncomputable def x159 : CodeOf Tryz.prog Tryz.f159 := ⟨_, rdc⟩
noncomputable def y159l0 : FoldOf (bodyL x159.c 0) [] := ⟨_, rdf⟩
noncomputable def c159l0 : C := (y159l0).c
noncomputable def y159 (v0 : C) : FoldOf x159.c [v0] := ⟨_, rdf⟩
noncomputable def c159 : C := (y159 c159l0).c
theorem c159_ok : cC Tryz.prog (bodyOf Tryz.f159) = some c159 := by kernel_rfl
noncomputable def x160 : CodeOf Tryz.prog Tryz.f160 := ⟨_, rdc⟩
noncomputable def x161 : CodeOf Tryz.prog Tryz.f161 := ⟨_, rdc⟩
noncomputable def x162 : CodeOf Tryz.prog Tryz.f162 := ⟨_, rdc⟩
noncomputable def y162l0 : FoldOf (bodyL x162.c 0) [] := ⟨_, rdf⟩
noncomputable def c162l0 : C := (y162l0).c
noncomputable def y162 (v0 : C) : FoldOf x162.c [v0] := ⟨_, rdf⟩
noncomputable def c162 : C := (y162 c162l0).c
theorem c162_ok : cC Tryz.prog (bodyOf Tryz.f162) = some c162 := by kernel_rfl
noncomputable def c163 : C := (.seq (.reg false [] [] [o 2 (.mv (kb false))]) (.seq (.reg false [] [] [o 3 (.mv (.t 0)), o 4 (.bin .eql (.t 3) (.c (.str ⟨#[65]⟩))), o 5 (.mv (.t 4)), og 6 (.mv (.t 0)) 5 false, og 7 (.bin .eql (.t 6) (.c (.str ⟨#[66]⟩))) 5 false, o 8 (.pick (.t 5) (kb true) (.t 7)), o 9 (.mv (.t 8)), og 10 (.mv (.t 0)) 9 false, og 11 (.bin .eql (.t 10) (.c (.str ⟨#[67]⟩))) 9 false, o 12 (.pick (.t 9) (kb true) (.t 11)), o 13 (.mv (.t 12)), og 14 (.mv (.t 0)) 13 false, og 15 (.bin .eql (.t 14) (.c (.str ⟨#[68]⟩))) 13 false, o 16 (.pick (.t 13) (kb true) (.t 15)), o 2 (.mv (.t 16))]) .ret))
theorem c163_ok : cC Tryz.prog (bodyOf Tryz.f163) = some c163 := by kernel_rfl
noncomputable def x164 : CodeOf Tryz.prog Tryz.f164 := ⟨_, rdc⟩
noncomputable def x165 : CodeOf Tryz.prog Tryz.f165 := ⟨_, rdc⟩
noncomputable def x166 : CodeOf Tryz.prog Tryz.f166 := ⟨_, rdc⟩
noncomputable def x167 : CodeOf Tryz.prog Tryz.f167 := ⟨_, rdc⟩
noncomputable def x168 : CodeOf Tryz.prog Tryz.f168 := ⟨_, rdc⟩
noncomputable def x169 : CodeOf Tryz.prog Tryz.f169 := ⟨_, rdc⟩
noncomputable def y169l0 : FoldOf (bodyL x169.c 0) [] := ⟨_, rdf⟩
noncomputable def c169l0 : C := (y169l0).c
noncomputable def y169 (v0 : C) : FoldOf x169.c [v0] := ⟨_, rdf⟩
noncomputable def c169 : C := (y169 c169l0).c
theorem c169_ok : cC Tryz.prog (bodyOf Tryz.f169) = some c169 := by kernel_rfl
noncomputable def x170 : CodeOf Tryz.prog Tryz.f170 := ⟨_, rdc⟩
noncomputable def y170l0 : FoldOf (bodyL x170.c 0) [] := ⟨_, rdf⟩
noncomputable def c170l0 : C := (y170l0).c
noncomputable def y170 (v0 : C) : FoldOf x170.c [v0] := ⟨_, rdf⟩
noncomputable def c170 : C := (y170 c170l0).c
theorem c170_ok : cC Tryz.prog (bodyOf Tryz.f170) = some c170 := by kernel_rfl
noncomputable def x172 : CodeOf Tryz.prog Tryz.f172 := ⟨_, rdc⟩
noncomputable def y172l0 : FoldOf (bodyL x172.c 0) [] := ⟨_, rdf⟩
noncomputable def c172l0 : C := (y172l0).c
noncomputable def y172 (v0 : C) : FoldOf x172.c [v0] := ⟨_, rdf⟩
noncomputable def c172 : C := (y172 c172l0).c
theorem c172_ok : cC Tryz.prog (bodyOf Tryz.f172) = some c172 := by kernel_rfl
noncomputable def x174 : CodeOf Tryz.prog Tryz.f174 := ⟨_, rdc⟩
noncomputable def y174l0 : FoldOf (bodyL x174.c 0) [] := ⟨_, rdf⟩
noncomputable def c174l0 : C := (y174l0).c
noncomputable def y174 (v0 : C) : FoldOf x174.c [v0] := ⟨_, rdf⟩
noncomputable def c174 : C := (y174 c174l0).c
theorem c174_ok : cC Tryz.prog (bodyOf Tryz.f174) = some c174 := by kernel_rfl
noncomputable def x182 : CodeOf Tryz.prog Tryz.f182 := ⟨_, rdc⟩
noncomputable def x183 : CodeOf Tryz.prog Tryz.f183 := ⟨_, rdc⟩
noncomputable def x185 : CodeOf Tryz.prog Tryz.f185 := ⟨_, rdc⟩
noncomputable def x186 : CodeOf Tryz.prog Tryz.f186 := ⟨_, rdc⟩
noncomputable def x187 : CodeOf Tryz.prog Tryz.f187 := ⟨_, rdc⟩
noncomputable def x188 : CodeOf Tryz.prog Tryz.f188 := ⟨_, rdc⟩
end Go.Gn

namespace Go.Gn
open Go Go.Proofs
set_option maxRecDepth 100000
set_option maxHeartbeats 4000000
noncomputable def x189 : CodeOf Tryz.prog Tryz.f189 := ⟨_, rdc⟩
noncomputable def y189l0 : FoldOf (bodyL x189.c 0) [] := ⟨_, rdf⟩
noncomputable def c189l0 : C := (y189l0).c
noncomputable def y189 (v0 : C) : FoldOf x189.c [v0] := ⟨_, rdf⟩
noncomputable def c189 : C := (y189 c189l0).c
theorem c189_ok : cC Tryz.prog (bodyOf Tryz.f189) = some c189 := by kernel_rfl
noncomputable def x190 : CodeOf Tryz.prog Tryz.f190 := ⟨_, rdc⟩
noncomputable def x191 : CodeOf Tryz.prog Tryz.f191 := ⟨_, rdc⟩
noncomputable def x192 : CodeOf Tryz.prog Tryz.f192 := ⟨_, rdc⟩
noncomputable def c195l0 : C := (.seq (.reg false [] [] [o 14 (.bin .lss (.t 13) (.t 12))]) (.seq (.cond (.t 14) .skip (.exit 0)) (.seq (.blk 1 (.seq (.reg false [] [] [o 15 (.mv (.t 13)), o 5 (.mv (.t 15))]) (.seq (.reg true [] [] [o 16 (.mv (.t 0)), o 17 (.mv (.t 5)), od 18 (.iadr 5 (.t 16) (.t 17)) [0, 1], od 19 (.load true 5 (.t 18)) [2], o 20 (.mv (.t 1)), o 21 (.mv (.t 5)), od 22 (.iadr 5 (.t 20) (.t 21)) [4, 5], od 23 (.load true 5 (.t 22)) [6], od 24 (.eqa true [1, 2, 2, 1, 2] (.t 19) (.t 23)) [3, 7]]) (.cond (.t 24) (.seq (.reg false [] [] [o 4 (.mv (kb false))]) .ret) .skip)))) (.reg false [] [] [o 25 (.bin .add (.t 13) (k 1)), o 13 (.mv (.t 25))]))))
noncomputable def c195 : C := (.seq (.reg false [] [] [o 4 (.mv (kb false))]) (.seq (.seq (.reg false [] [] [o 6 (.mv (.t 0)), o 7 (.len (.t 6)), o 8 (.mv (.t 1)), o 9 (.len (.t 8)), o 10 (.bin .neq (.t 7) (.t 9))]) (.cond (.t 10) (.seq (.reg false [] [] [o 4 (.mv (kb false))]) .ret) .skip)) (.seq (.seq (.reg false [] [] [o 11 (.mv (.t 0)), o 12 (.len (.t 11)), o 13 (.mv (k 0))]) (.blk 0 (.loop c195l0))) (.seq (.reg false [] [] [o 4 (.mv (kb true))]) .ret))))
theorem c195_ok : cC Tryz.prog (bodyOf Tryz.f195) = some c195 := by kernel_rfl
noncomputable def x196 : CodeOf Tryz.prog Tryz.f196 := ⟨_, rdc⟩
noncomputable def c197l0 : C := (.seq (.seq (.reg false [] [] [o 7 (.mv (.t 4)), o 8 (.bin .gtr (.t 7) (k 0))]) (.cond (.t 8) .skip (.exit 0))) (.seq (.blk 1 (.reg false [] [] [o 11 (.mv (.t 3)), o 12 (.mv (.t 0)), o 13 (.mks 1 5 [(.str ⟨#[]⟩)] [(0, 1, (.c (.str ⟨#[97]⟩))), (1, 1, (.c (.str ⟨#[98]⟩))), (2, 1, (.c (.str ⟨#[99]⟩))), (3, 1, (.c (.str ⟨#[100]⟩))), (4, 1, (.c (.str ⟨#[97]⟩)))]), o 14 (.call 196 [.t 12, .t 13]), o 15 (.bin .add (.t 11) (.t 14)), o 3 (.mv (.t 15))])) (.reg false [] [] [o 9 (.mv (.t 4)), o 10 (.bin .sub (.t 9) (k 1)), o 4 (.mv (.t 10))])))
noncomputable def c197 : C := (.seq (.reg false [] [] [o 2 (.mv (.c (.str ⟨#[]⟩)))]) (.seq (.reg false [] [] [o 3 (.mv (.c (.str ⟨#[]⟩)))]) (.seq (.seq (.reg false [] [] [o 5 (.mv (.t 0)), o 6 (.call 74 [.t 5, (k 4)]), o 4 (.mv (.t 6))]) (.blk 0 (.loop c197l0))) (.seq (.seq (.reg false [] [] [o 16 (.mv (.t 0)), o 17 (.call 74 [.t 16, (k 30)]), o 18 (.bin .eql (.t 17) (k 0))]) (.cond (.t 18) (.seq (.reg false [] [] [o 19 (.mv (.t 3)), o 20 (.mv (.t 0)), o 21 (.mks 1 4 [(.str ⟨#[]⟩)] [(0, 1, (.c (.str ⟨#[101]⟩))), (1, 1, (.c (.str ⟨#[97, 97, 97, 97]⟩))), (2, 1, (.c (.str ⟨#[32]⟩))), (3, 1, (.c (.str ⟨#[65]⟩)))]), o 22 (.call 196 [.t 20, .t 21]), o 23 (.bin .add (.t 19) (.t 22)), o 2 (.mv (.t 23))]) .ret) .skip)) (.seq (.reg false [] [] [o 24 (.mv (.t 3)), o 2 (.mv (.t 24))]) .ret)))))
theorem c197_ok : cC Tryz.prog (bodyOf Tryz.f197) = some c197 := by kernel_rfl
noncomputable def x198 : CodeOf Tryz.prog Tryz.f198 := ⟨_, rdc⟩
noncomputable def x199 : CodeOf Tryz.prog Tryz.f199 := ⟨_, rdc⟩
noncomputable def x200 : CodeOf Tryz.prog Tryz.f200 := ⟨_, rdc⟩
noncomputable def x201 : CodeOf Tryz.prog Tryz.f201 := ⟨_, rdc⟩
noncomputable def y201l0 : FoldOf (bodyL x201.c 0) [] := ⟨_, rdf⟩
noncomputable def c201l0 : C := (y201l0).c
noncomputable def y201 (v0 : C) : FoldOf x201.c [v0] := ⟨_, rdf⟩
noncomputable def c201 : C := (y201 c201l0).c
theorem c201_ok : cC Tryz.prog (bodyOf Tryz.f201) = some c201 := by kernel_rfl
noncomputable def x202 : CodeOf Tryz.prog Tryz.f202 := ⟨_, rdc⟩
noncomputable def y202l0 : FoldOf (bodyL x202.c 0) [] := ⟨_, rdf⟩
noncomputable def c202l0 : C := (y202l0).c
noncomputable def y202 (v0 : C) : FoldOf x202.c [v0] := ⟨_, rdf⟩
noncomputable def c202 : C := (y202 c202l0).c
theorem c202_ok : cC Tryz.prog (bodyOf Tryz.f202) = some c202 := by kernel_rfl
noncomputable def x203 : CodeOf Tryz.prog Tryz.f203 := ⟨_, rdc⟩
noncomputable def x206 : CodeOf Tryz.prog Tryz.f206 := ⟨_, rdc⟩
noncomputable def x207 : CodeOf Tryz.prog Tryz.f207 := ⟨_, rdc⟩
noncomputable def y207l0 : FoldOf (bodyL x207.c 0) [] := ⟨_, rdf⟩
noncomputable def c207l0 : C := (y207l0).c
noncomputable def y207 (v0 : C) : FoldOf x207.c [v0] := ⟨_, rdf⟩
noncomputable def c207 : C := (y207 c207l0).c
theorem c207_ok : cC Tryz.prog (bodyOf Tryz.f207) = some c207 := by kernel_rfl
noncomputable def x208 : CodeOf Tryz.prog Tryz.f208 := ⟨_, rdc⟩
noncomputable def x209 : CodeOf Tryz.prog Tryz.f209 := ⟨_, rdc⟩
noncomputable def y209l0 : FoldOf (bodyL x209.c 0) [] := ⟨_, rdf⟩
noncomputable def c209l0 : C := (y209l0).c
noncomputable def y209 (v0 : C) : FoldOf x209.c [v0] := ⟨_, rdf⟩
noncomputable def c209 : C := (y209 c209l0).c
theorem c209_ok : cC Tryz.prog (bodyOf Tryz.f209) = some c209 := by kernel_rfl
noncomputable def x210 : CodeOf Tryz.prog Tryz.f210 := ⟨_, rdc⟩
noncomputable def x211 : CodeOf Tryz.prog Tryz.f211 := ⟨_, rdc⟩
noncomputable def x212 : CodeOf Tryz.prog Tryz.f212 := ⟨_, rdc⟩
noncomputable def y212l0 : FoldOf (bodyL x212.c 0) [] := ⟨_, rdf⟩
noncomputable def c212l0 : C := (y212l0).c
noncomputable def y212 (v0 : C) : FoldOf x212.c [v0] := ⟨_, rdf⟩
noncomputable def c212 : C := (y212 c212l0).c
theorem c212_ok : cC Tryz.prog (bodyOf Tryz.f212) = some c212 := by kernel_rfl
noncomputable def x213 : CodeOf Tryz.prog Tryz.f213 := ⟨_, rdc⟩
noncomputable def x214 : CodeOf Tryz.prog Tryz.f214 := ⟨_, rdc⟩
noncomputable def x215 : CodeOf Tryz.prog Tryz.f215 := ⟨_, rdc⟩
noncomputable def y215l0 : FoldOf (bodyL x215.c 0) [] := ⟨_, rdf⟩
noncomputable def c215l0 : C := (y215l0).c
noncomputable def y215 (v0 : C) : FoldOf x215.c [v0] := ⟨_, rdf⟩
noncomputable def c215 : C := (y215 c215l0).c
theorem c215_ok : cC Tryz.prog (bodyOf Tryz.f215) = some c215 := by kernel_rfl
noncomputable def x216 : CodeOf Tryz.prog Tryz.f216 := ⟨_, rdc⟩
noncomputable def y216l0 : FoldOf (bodyL x216.c 0) [] := ⟨_, rdf⟩
noncomputable def c216l0 : C := (y216l0).c
noncomputable def y216 (v0 : C) : FoldOf x216.c [v0] := ⟨_, rdf⟩
noncomputable def c216 : C := (y216 c216l0).c
theorem c216_ok : cC Tryz.prog (bodyOf Tryz.f216) = some c216 := by kernel_rfl
noncomputable def x220 : CodeOf Tryz.prog Tryz.f220 := ⟨_, rdc⟩
noncomputable def x221 : CodeOf Tryz.prog Tryz.f221 := ⟨_, rdc⟩
noncomputable def x222 : CodeOf Tryz.prog Tryz.f222 := ⟨_, rdc⟩
noncomputable def x223 : CodeOf Tryz.prog Tryz.f223 := ⟨_, rdc⟩
noncomputable def c224 : C := (.seq (.reg false [] [] [o 3 (.box (.t 0)), o 5 (.box (.t 2)), o 6 (.alloc [(.bool false), (.int .i64 0), (.bool false), (.bool false), .nils]), o 7 (.alloc [(.int .i64 0), (.int .i64 0), (.int .i64 0), (.int .i64 0), (.int .i64 0), (.str ⟨#[]⟩), (.str ⟨#[]⟩), (.int .i64 0), (.str ⟨#[]⟩), .nils]), o 8 (.mv (kb false))]) (.seq (.reg false [] [] [o 12 (.mv (.t 1)), o 13 (.bin .sub (k 3) (.t 12)), o 14 (.fadr 1 (.t 3)), o 15 (.load false 1 (.t 14)), o 16 (.fadr 3 (.t 5)), o 17 (.load false 1 (.t 16)), o 18 (.build [(.int .i64 0), (.int .i64 0), (.int .i64 0), (.int .i64 0), (.int .i64 0), (.str ⟨#[]⟩), (.str ⟨#[]⟩), (.int .i64 0), (.str ⟨#[]⟩), .nils] [(0, 1, (k 2)), (1, 1, (.t 13)), (2, 1, (.t 15)), (3, 1, (.t 17))]), o 9 (.alloc [(.int .i64 0), (.int .i64 0), (.int .i64 0), (.int .i64 0), (.int .i64 0), (.str ⟨#[]⟩), (.str ⟨#[]⟩), (.int .i64 0), (.str ⟨#[]⟩), .nils]), on (.store 10 (.t 9) (.t 18))]) (.seq (.blk 0 (.seq (.reg false [] [] [o 20 (.fadr 2 (.t 5)), o 21 (.load false 1 (.t 20)), o 22 (.fadr 1 (.t 3)), o 23 (.load false 1 (.t 22)), o 24 (.bin .neq (.t 21) (.t 23)), o 25 (.mv (.t 24)), og 26 (.fadr 2 (.t 3)) 25 false, og 27 (.load false 1 (.t 26)) 25 false, o 28 (.pick (.t 25) (kb true) (.t 27)), o 19 (.mv (.t 28))]) (.cond (.t 19) (.seq (.reg false [] [] [o 29 (.load true 5 (.t 3)), o 30 (.build [(.int .i64 0), (.int .i64 0), (.int .i64 0), (.int .i64 0), (.int .i64 0), (.str ⟨#[]⟩), (.str ⟨#[]⟩), (.int .i64 0), (.str ⟨#[]⟩), .nils] []), on (.store 5 (.t 6) (.t 29)), on (.store 10 (.t 7) (.t 30)), o 8 (.mv (kb false))]) .ret) (.seq (.reg false [] [] [o 32 (.fadr 3 (.t 5)), o 33 (.load false 1 (.t 32)), o 34 (.fadr 4 (.t 3)), o 35 (.load false 1 (.t 34)), o 36 (.len (.t 35)), o 37 (.bin .leq (.t 33) (.t 36)), o 31 (.mv (.t 37))]) (.cond (.t 31) (.seq (.reg true [(1, 13), (3, 13), (3, 14), (5, 13), (5, 14), (7, 13), (7, 14), (8, 13), (8, 14), (10, 13), (10, 14)] [] [o 38 (.load true 5 (.t 3)), o 39 (.load true 10 (.t 9)), o 40 (.fadr 4 (.t 3)), od 41 (.load false 1 (.t 40)) [2], o 42 (.fadr 3 (.t 5)), od 43 (.load false 1 (.t 42)) [4], od 44 (.bin .sub (.t 43) (k 1)) [5], od 45 (.iadr 5 (.t 41) (.t 44)) [3, 6], od 46 (.load true 5 (.t 45)) [7], o 47 (.fadr 4 (.t 5)), od 48 (.load true 5 (.t 47)) [9], od 49 (.eqa false [1, 2, 2, 1, 2] (.t 46) (.t 48)) [8, 10], ⟨none, (.store 5 (.t 6) (.t 38)), none, [0, 0]⟩, ⟨none, (.store 10 (.t 7) (.t 39)), none, [1, 12, 0, 1, 12]⟩, od 8 (.mv (.t 49)) [11, 13, 0, 1, 2, 3, 4, 5, 6, 7, 8, 9, 10, 11, 12, 13]]) .ret) (.seq (.reg false [] [] [o 51 (.fadr 3 (.t 5)), o 52 (.load false 1 (.t 51)), o 53 (.fadr 4 (.t 3)), o 54 (.load false 1 (.t 53)), o 55 (.len (.t 54)), o 56 (.bin .add (.t 55) (k 1)), o 57 (.bin .gtr (.t 52) (.t 56)), o 50 (.mv (.t 57))]) (.cond (.t 50) (.seq (.reg false [] [] [o 58 (.load true 5 (.t 3)), o 59 (.build [(.int .i64 0), (.int .i64 0), (.int .i64 0), (.int .i64 0), (.int .i64 0), (.str ⟨#[]⟩), (.str ⟨#[]⟩), (.int .i64 0), (.str ⟨#[]⟩), .nils] []), on (.store 5 (.t 6) (.t 58)), on (.store 10 (.t 7) (.t 59)), o 8 (.mv (kb false))]) .ret) .skip))))))) (.seq (.reg false [] [] [o 61 (.load true 5 (.t 3)), o 62 (.fadr 4 (.t 5)), o 63 (.load true 5 (.t 62)), o 64 (.call 210 [.t 61, .t 63]), o 60 (.mv (.t 64)), o 65 (.ext (.t 60) 0), o 66 (.ext (.t 60) 1), o 10 (.alloc [(.bool false), (.int .i64 0), (.bool false), (.bool false), .nils]), on (.store 5 (.t 10) (.t 65)), o 11 (.mv (.t 66))]) (.seq (.reg true [(1, 4)] [] [o 67 (.load true 5 (.t 10)), o 68 (.load true 10 (.t 9)), o 69 (.mv (.t 11)), ⟨none, (.store 5 (.t 6) (.t 67)), none, [0, 0]⟩, ⟨none, (.store 10 (.t 7) (.t 68)), none, [1, 3, 0, 1, 3]⟩, od 8 (.mv (.t 69)) [2, 4, 0, 1, 2, 3, 4]]) .ret)))))
theorem c224_ok : cC Tryz.prog (bodyOf Tryz.f224) = some c224 := by kernel_rfl
noncomputable def x225 : CodeOf Tryz.prog Tryz.f225 := ⟨_, rdc⟩
noncomputable def y225l0 : FoldOf (bodyL x225.c 0) [] := ⟨_, rdf⟩
noncomputable def c225l0 : C := (y225l0).c
noncomputable def y225 (v0 : C) : FoldOf x225.c [v0] := ⟨_, rdf⟩
noncomputable def c225 : C := (y225 c225l0).c
theorem c225_ok : cC Tryz.prog (bodyOf Tryz.f225) = some c225 := by kernel_rfl
noncomputable def x226 : CodeOf Tryz.prog Tryz.f226 := ⟨_, rdc⟩
noncomputable def y226l0 : FoldOf (bodyL x226.c 0) [] := ⟨_, rdf⟩
noncomputable def c226l0 : C := (y226l0).c
noncomputable def y226 (v0 : C) : FoldOf x226.c [v0] := ⟨_, rdf⟩
noncomputable def c226 : C := (y226 c226l0).c
theorem c226_ok : cC Tryz.prog (bodyOf Tryz.f226) = some c226 := by kernel_rfl
noncomputable def x227 : CodeOf Tryz.prog Tryz.f227 := ⟨_, rdc⟩
noncomputable def x228 : CodeOf Tryz.prog Tryz.f228 := ⟨_, rdc⟩
noncomputable def x231 : CodeOf Tryz.prog Tryz.f231 := ⟨_, rdc⟩
noncomputable def y231l0 : FoldOf (bodyL x231.c 0) [] := ⟨_, rdf⟩
noncomputable def c231l0 : C := (y231l0).c
noncomputable def y231 (v0 : C) : FoldOf x231.c [v0] := ⟨_, rdf⟩
noncomputable def c231 : C := (y231 c231l0).c
theorem c231_ok : cC Tryz.prog (bodyOf Tryz.f231) = some c231 := by kernel_rfl
noncomputable def x233 : CodeOf Tryz.prog Tryz.f233 := ⟨_, rdc⟩
noncomputable def y233l0 : FoldOf (bodyL x233.c 0) [] := ⟨_, rdf⟩
noncomputable def c233l0 : C := (y233l0).c
noncomputable def y233 (v0 : C) : FoldOf x233.c [v0] := ⟨_, rdf⟩
noncomputable def c233 : C := (y233 c233l0).c
theorem c233_ok : cC Tryz.prog (bodyOf Tryz.f233) = some c233 := by kernel_rfl
noncomputable def x234 : CodeOf Tryz.prog Tryz.f234 := ⟨_, rdc⟩
end Go.Gn

namespace Go.Gn
open Go Go.Proofs
set_option maxRecDepth 100000
set_option maxHeartbeats 4000000
noncomputable def cf4 : CF := { nt := 103, res := [(2, none)], body := c4, live := [3, 8, 9], out := [2, 8] }
noncomputable def cf5 : CF := { nt := 87, res := [(2, none)], body := c5, live := [4, 8], out := [2, 4] }
noncomputable def cf8 : CF := { nt := 131, res := [(2, none)], body := c8, live := [4, 8, 9, 10], out := [2] }
noncomputable def cf9 : CF := { nt := 77, res := [(4, none)], body := x9.c }
noncomputable def cf13 : CF := { nt := 50, res := [(2, none)], body := x13.c }
noncomputable def cf15 : CF := { nt := 87, res := [(4, none)], body := c15, live := [5, 6, 11, 12, 13], out := [4, 6, 11, 12] }
noncomputable def cf16 : CF := { nt := 91, res := [(2, none)], body := c16, live := [8], out := [2, 8] }
noncomputable def cf17 : CF := { nt := 119, res := [(4, none)], body := c17, live := [1, 6, 10, 11, 12], out := [4, 10, 11] }
noncomputable def cf18 : CF := { nt := 108, res := [(2, none)], body := x18.c }
noncomputable def cf19 : CF := { nt := 116, res := [(2, none)], body := x19.c }
noncomputable def cf20 : CF := { nt := 100, res := [(2, none)], body := x20.c }
noncomputable def cf21 : CF := { nt := 61, res := [(4, none)], body := x21.c }
noncomputable def cf33 : CF := { nt := 24, res := [(2, none)], body := c33, byRef := [true], demC := true, live := [4], out := [2, 4] }
noncomputable def cf34 : CF := { nt := 22, res := [(2, (some (true, 6))), (3, none)], body := c34, live := [2, 4, 12, 13, 14], out := [2, 3, 4] }
noncomputable def cf35 : CF := { nt := 25, res := [(2, (some (true, 6))), (3, none)], body := c35, demC := true, live := [0, 2, 4, 5], out := [2, 3, 4] }
noncomputable def cf36 : CF := { nt := 87, res := [(4, none)], body := c36, live := [2, 3, 5, 6], out := [2, 3, 4] }
noncomputable def cf37 : CF := { nt := 26, res := [(4, none)], body := c37, live := [0, 1, 5], out := [4] }
noncomputable def cf38 : CF := { nt := 18, res := [(4, none)], body := x38.c }
noncomputable def cf39 : CF := { nt := 46, res := [(2, none)], body := x39.c }
noncomputable def cf43 : CF := { nt := 20, res := [(2, none)], body := x43.c, own := true }
noncomputable def cf45 : CF := { nt := 3, res := [(0, (some (true, 2)))], body := x45.c, own := true }
noncomputable def cf48 : CF := { nt := 42, res := [(2, none)], body := x48.c }
noncomputable def cf49 : CF := { nt := 15, res := [(4, (some (true, 6)))], body := x49.c }
noncomputable def cf50 : CF := { nt := 38, res := [(4, none)], body := x50.c }
noncomputable def cf51 : CF := { nt := 23, res := [(4, (some (true, 6)))], body := c51, live := [4, 5, 17, 18], out := [4, 5] }
noncomputable def cf55 : CF := { nt := 55, res := [(4, (some (true, 2))), (5, none)], body := x55.c, own := true }
noncomputable def cf58 : CF := { nt := 54, res := [(6, (some (true, 5))), (7, (some (true, 10))), (8, none)], body := x58.c, own := true }
noncomputable def cf59 : CF := { nt := 45, res := [(4, none)], body := c59 }
noncomputable def cf60 : CF := { nt := 71, res := [(6, (some (true, 5))), (7, (some (true, 10))), (8, none)], body := x60.c, own := true }
noncomputable def cf72 : CF := { nt := 11, res := [(2, none)], body := x72.c, byRef := [true], demC := true }
noncomputable def cf73 : CF := { nt := 28, res := [(2, none), (3, (some (true, 6)))], body := c73, byRef := [true], demC := true, live := [0, 3, 4, 5, 6], out := [2, 3, 4, 5] }
noncomputable def cf74 : CF := { nt := 99, res := [(4, none)], body := x74.c, byRef := [true] }
noncomputable def cf75 : CF := { nt := 17, res := [(0, (some (true, 6)))], body := x75.c, nilr := [(4, 10, 0), (5, 5, 5)] }
noncomputable def cf76 : CF := { nt := 94, res := [], body := x76.c, byRef := [true, false] }
noncomputable def cf77 : CF := { nt := 19, res := [(0, (some (true, 6)))], body := x77.c, demC := true }
noncomputable def cf78 : CF := { nt := 105, res := [(4, (some (true, 6)))], body := x78.c, byRef := [true, false], demC := true }
noncomputable def cf79 : CF := { nt := 48, res := [(2, (some (true, 6)))], body := c79, demC := true, live := [1, 2, 3, 4], out := [1, 2, 3] }
noncomputable def cf80 : CF := { nt := 13, res := [(2, (some (true, 2)))], body := x80.c, own := true }
noncomputable def cf81 : CF := { nt := 27, res := [(6, none)], body := x81.c, own := true }
noncomputable def cf82 : CF := { nt := 73, res := [(2, none)], body := c82, own := true, live := [1, 5, 6, 20, 21, 22, 52, 53, 54], out := [1, 2, 5, 6] }
noncomputable def cf83 : CF := { nt := 5, res := [(2, none)], body := x83.c, own := true }
noncomputable def cf84 : CF := { nt := 17, res := [(2, none)], body := x84.c, own := true }
noncomputable def cf86 : CF := { nt := 2, res := [(0, none)], body := x86.c, own := true }
noncomputable def cf89 : CF := { nt := 34, res := [(4, (some (true, 2))), (5, none)], body := c89, own := true, live := [2, 4, 16, 17, 18], out := [2, 4, 5] }
noncomputable def cf90 : CF := { nt := 15, res := [(6, none)], body := x90.c, own := true }
noncomputable def cf91 : CF := { nt := 5, res := [(2, none)], body := x91.c, own := true }
noncomputable def cf92 : CF := { nt := 148, res := [(2, none)], body := x92.c }
noncomputable def cf93 : CF := { nt := 9, res := [(4, none)], body := x93.c }
noncomputable def cf94 : CF := { nt := 12, res := [(3, none)], body := x94.c }
noncomputable def cf95 : CF := { nt := 69, res := [(2, none)], body := c95, own := true }
noncomputable def cf96 : CF := { nt := 86, res := [(4, none)], body := x96.c }
noncomputable def cf97 : CF := { nt := 46, res := [(2, (some (true, 6)))], body := c97, live := [1, 2, 3, 16, 17, 18, 31, 32, 33], out := [1, 2, 3], nilr := [(4, 10, 0), (5, 5, 5)] }
noncomputable def cf98 : CF := { nt := 24, res := [], body := c98, byRef := [true], live := [0, 19], out := [] }
noncomputable def cf100 : CF := { nt := 15, res := [(6, none)], body := x100.c, demC := true }
noncomputable def cf106 : CF := { nt := 57, res := [(2, none)], body := c106, own := true }
noncomputable def cf107 : CF := { nt := 13, res := [(6, (some (true, 2))), (7, none)], body := x107.c, own := true }
noncomputable def cf108 : CF := { nt := 15, res := [(8, (some (true, 2))), (9, none)], body := x108.c, own := true }
noncomputable def cf109 : CF := { nt := 13, res := [(6, (some (true, 2))), (7, none)], body := x109.c, own := true }
noncomputable def cf110 : CF := { nt := 11, res := [(4, (some (true, 2))), (5, none)], body := x110.c, own := true }
noncomputable def cf111 : CF := { nt := 109, res := [(4, (some (true, 7)))], body := x111.c, byRef := [true], demC := true }
noncomputable def cf112 : CF := { nt := 8, res := [(2, (some (true, 5)))], body := x112.c, own := true }
noncomputable def cf113 : CF := { nt := 21, res := [(4, none)], body := x113.c, own := true }
noncomputable def cf114 : CF := { nt := 67, res := [(4, none)], body := c114, byRef := [true, false], own := true }
noncomputable def cf115 : CF := { nt := 61, res := [(4, none)], body := x115.c, byRef := [true, false], own := true }
noncomputable def cf135 : CF := { nt := 12, res := [(2, (some (true, 5))), (3, none)], body := x135.c, own := true }
noncomputable def cf136 : CF := { nt := 38, res := [], body := x136.c, byRef := [true, false, false] }
noncomputable def cf137 : CF := { nt := 54, res := [], body := x137.c, byRef := [true, false, false] }
noncomputable def cf138 : CF := { nt := 12, res := [(4, none)], body := x138.c, inl := true, byRef := [true, false] }
noncomputable def cf139 : CF := { nt := 48, res := [], body := x139.c, byRef := [true, false] }
noncomputable def cf140 : CF := { nt := 35, res := [], body := x140.c, byRef := [true] }
noncomputable def cf141 : CF := { nt := 16, res := [(2, (some (true, 5))), (3, none)], body := x141.c, demC := true }
noncomputable def cf142 : CF := { nt := 43, res := [(6, (some (true, 6)))], body := x142.c, byRef := [true, false, false], demC := true }
noncomputable def cf143 : CF := { nt := 49, res := [(4, (some (true, 6)))], body := x143.c, byRef := [true, false], demC := true }
noncomputable def cf144 : CF := { nt := 52, res := [(4, (some (true, 6)))], body := x144.c, byRef := [true, false], demC := true }
noncomputable def cf145 : CF := { nt := 16, res := [(4, (some (true, 6)))], body := x145.c, byRef := [true, true], demC := true }
noncomputable def cf146 : CF := { nt := 9, res := [(2, (some (true, 5)))], body := x146.c, demC := true }
noncomputable def cf147 : CF := { nt := 9, res := [(4, none)], body := x147.c, own := true }
noncomputable def cf148 : CF := { nt := 45, res := [(2, none)], body := c148, own := true, live := [0, 5, 6, 7], out := [0, 2] }
noncomputable def cf149 : CF := { nt := 25, res := [(2, none)], body := c149, own := true, live := [1, 6, 7, 8], out := [1, 2] }
noncomputable def cf150 : CF := { nt := 22, res := [(4, none)], body := c150, own := true, live := [1, 5, 9, 10, 11], out := [4, 5] }
noncomputable def cf152 : CF := { nt := 32, res := [(2, (some (true, 2)))], body := c152, own := true, live := [2, 3, 14, 15], out := [2, 3], shIn := true }
noncomputable def cf153 : CF := { nt := 18, res := [(4, none)], body := x153.c, own := true }
noncomputable def cf154 : CF := { nt := 19, res := [(4, none)], body := c154, live := [0, 1, 7, 8], out := [4] }
noncomputable def cf155 : CF := { nt := 102, res := [(4, none)], body := c155 }
noncomputable def cf156 : CF := { nt := 0, res := [], body := .skip, byRef := [false], ext := some (cloneX 5 64 5) }
noncomputable def cf157 : CF := { nt := 8, res := [(2, (some (true, 10)))], body := x157.c, own := true }
noncomputable def cf158 : CF := { nt := 56, res := [(2, (some (true, 5)))], body := c158, byRef := [true], demC := true }
noncomputable def cf159 : CF := { nt := 37, res := [(4, (some (true, 2))), (5, none)], body := c159, byRef := [true, false], demC := true, live := [1, 2, 4, 6], out := [2, 4, 5] }
noncomputable def cf160 : CF := { nt := 4, res := [(0, (some (true, 2)))], body := x160.c, demC := true }
noncomputable def cf161 : CF := { nt := 69, res := [(2, none)], body := x161.c, demC := true }
noncomputable def cf162 : CF := { nt := 19, res := [(2, none)], body := c162, own := true, live := [0, 5, 6], out := [0, 2] }
noncomputable def cf163 : CF := { nt := 17, res := [(2, none)], body := c163, own := true }
noncomputable def cf164 : CF := { nt := 19, res := [(4, (some (true, 2))), (5, none)], body := x164.c, own := true }
noncomputable def cf165 : CF := { nt := 26, res := [(5, none)], body := x165.c, byRef := [true], own := true }
noncomputable def cf166 : CF := { nt := 27, res := [], body := x166.c, byRef := [true, true], own := true }
noncomputable def cf167 : CF := { nt := 62, res := [(6, none)], body := x167.c, byRef := [true], own := true }
noncomputable def cf168 : CF := { nt := 25, res := [], body := x168.c, byRef := [true, false], own := true }
noncomputable def cf169 : CF := { nt := 49, res := [(4, none)], body := c169, byRef := [true, false], own := true, live := [0, 1, 5, 13], out := [4] }
noncomputable def cf170 : CF := { nt := 62, res := [(5, none)], body := c170, byRef := [true], own := true, live := [0, 1, 3, 6, 30, 31, 32], out := [0, 1, 3, 5, 6] }
noncomputable def cf171 : CF := { nt := 0, res := [], body := .skip, byRef := [false], ext := some (cloneX 1 8 1) }
noncomputable def cf172 : CF := { nt := 44, res := [(4, none)], body := c172, byRef := [true], own := true, live := [0, 5, 18, 19, 20], out := [0, 4, 5] }
noncomputable def cf173 : CF := { nt := 0, res := [], body := .skip, byRef := [true, false, false], ext := some (deleteX 2) }
noncomputable def cf174 : CF := { nt := 49, res := [(4, (some (true, 5)))], body := c174, byRef := [true], demC := true, live := [0, 3, 4, 5, 6], out := [4, 5] }
noncomputable def cf182 : CF := { nt := 32, res := [], body := x182.c, byRef := [true, true, false] }
noncomputable def cf183 : CF := { nt := 20, res := [], body := x183.c, byRef := [true, true] }
noncomputable def cf184 : CF := { nt := 0, res := [], body := .skip, byRef := [true, false, false], ext := some (deleteX 10) }
noncomputable def cf185 : CF := { nt := 82, res := [], body := x185.c, byRef := [true, false] }
noncomputable def cf186 : CF := { nt := 41, res := [(6, (some (true, 5))), (7, (some (true, 10))), (8, none)], body := x186.c, byRef := [true, false, false], demC := true }
noncomputable def cf187 : CF := { nt := 27, res := [(6, (some (true, 6)))], body := x187.c, byRef := [true, true, false], demC := true }
noncomputable def cf188 : CF := { nt := 88, res := [(4, (some (true, 6)))], body := x188.c, byRef := [true, false], demC := true }
noncomputable def cf189 : CF := { nt := 19, res := [(4, none)], body := c189, live := [0, 1, 7, 8], out := [4] }
noncomputable def cf190 : CF := { nt := 8, res := [(3, none)], body := x190.c, own := true }
noncomputable def cf191 : CF := { nt := 9, res := [(4, none)], body := x191.c }
noncomputable def cf192 : CF := { nt := 9, res := [(3, none)], body := x192.c, own := true }
noncomputable def cf193 : CF := { nt := 0, res := [], body := .skip, byRef := [false], ext := some (cloneX 2 24 2) }
noncomputable def cf194 : CF := { nt := 0, res := [], body := .skip, byRef := [true], ext := some (cloneX 2 40 1) }
noncomputable def cf195 : CF := { nt := 26, res := [(4, none)], body := c195, live := [0, 1, 12, 13], out := [4] }
noncomputable def cf196 : CF := { nt := 12, res := [(4, none)], body := x196.c, byRef := [true] }
noncomputable def cf197 : CF := { nt := 25, res := [(2, none)], body := c197, byRef := [true], demC := true, live := [0, 3, 4], out := [0, 2, 3] }
noncomputable def cf198 : CF := { nt := 46, res := [(4, (some (true, 2))), (5, none)], body := x198.c, byRef := [true, false], demC := true }
noncomputable def cf199 : CF := { nt := 2, res := [(0, none)], body := x199.c, demC := true }
noncomputable def cf200 : CF := { nt := 12, res := [(2, none)], body := x200.c, demC := true }
noncomputable def cf201 : CF := { nt := 19, res := [(2, none)], body := c201, demC := true, live := [0, 3], out := [0, 2] }
noncomputable def cf202 : CF := { nt := 49, res := [(6, none), (7, none)], body := c202, live := [0, 1, 2, 8, 9, 10], out := [0, 1, 2, 6, 7, 8, 9] }
noncomputable def cf203 : CF := { nt := 9, res := [(4, none)], body := x203.c, own := true }
noncomputable def cf204 : CF := { nt := 0, res := [], body := .skip, byRef := [false, false], ext := some compareX }
noncomputable def cf205 : CF := { nt := 0, res := [], body := .skip, byRef := [true, false, true], ext := some (insertX 40) }
noncomputable def cf206 : CF := { nt := 9, res := [(4, none)], body := x206.c, own := true }
noncomputable def cf207 : CF := { nt := 28, res := [(2, none)], body := c207, own := true, live := [0, 3, 9, 10], out := [2, 3] }
noncomputable def cf208 : CF := { nt := 9, res := [(2, none)], body := x208.c, own := true }
noncomputable def cf209 : CF := { nt := 27, res := [(2, (some (true, 2)))], body := c209, own := true, demC := true, live := [1, 2, 3, 4], out := [1, 2, 3] }
noncomputable def cf210 : CF := { nt := 43, res := [(4, (some (true, 5))), (5, none)], body := x210.c, byRef := [true, false], demC := true }
noncomputable def cf211 : CF := { nt := 84, res := [(6, (some (true, 5))), (7, (some (true, 10))), (8, none)], body := x211.c, byRef := [true, false, false], demC := true }
noncomputable def cf212 : CF := { nt := 19, res := [(4, none)], body := c212, live := [0, 1, 7, 8], out := [4] }
noncomputable def cf213 : CF := { nt := 29, res := [(6, (some (true, 2))), (7, none)], body := x213.c, byRef := [true, false, false], demC := true }
noncomputable def cf214 : CF := { nt := 92, res := [(8, (some (true, 2))), (9, none)], body := x214.c, byRef := [true, false, false, false], demR := true }
noncomputable def cf215 : CF := { nt := 76, res := [(6, (some (true, 2))), (7, none)], body := c215, byRef := [true, false, false], demC := true, live := [3, 6, 9, 10], out := [3, 6, 7, 9] }
noncomputable def cf216 : CF := { nt := 62, res := [(4, (some (true, 2))), (5, none)], body := c216, byRef := [true, false], demC := true, live := [2, 4, 6, 7], out := [2, 4, 5, 6] }
noncomputable def cf220 : CF := { nt := 8, res := [(3, none)], body := x220.c, own := true }
noncomputable def cf221 : CF := { nt := 5, res := [(2, none)], body := x221.c, own := true }
noncomputable def cf222 : CF := { nt := 10, res := [(2, (some (true, 2)))], body := x222.c, demC := true }
noncomputable def cf223 : CF := { nt := 6, res := [(2, none)], body := x223.c, demC := true }
noncomputable def cf224 : CF := { nt := 70, res := [(6, (some (true, 5))), (7, (some (true, 10))), (8, none)], body := c224, byRef := [true, false, false], demC := true }
noncomputable def cf225 : CF := { nt := 22, res := [(4, none)], body := c225, demC := true, live := [1, 2, 5], out := [4] }
noncomputable def cf226 : CF := { nt := 50, res := [(4, (some (true, 2)))], body := c226, byRef := [true, true], demC := true, live := [2, 3, 4, 5, 6, 7], out := [2, 3, 4, 5, 6] }
noncomputable def cf227 : CF := { nt := 30, res := [(4, none)], body := x227.c, byRef := [true, false], demC := true }
noncomputable def cf228 : CF := { nt := 42, res := [(4, none), (5, none), (6, none)], body := x228.c, byRef := [true, false], demC := true }
noncomputable def cf231 : CF := { nt := 39, res := [(4, none), (5, none)], body := c231, demC := true, live := [0, 1, 6, 7, 8], out := [4, 5, 7] }
noncomputable def cf233 : CF := { nt := 25, res := [(2, none)], body := c233, demC := true, live := [0, 3, 4], out := [2, 3] }
noncomputable def cf234 : CF := { nt := 6, res := [(2, none)], body := x234.c, demC := true }
noncomputable def tab : List (Nat × CF) := [(4, cf4), (5, cf5), (8, cf8), (9, cf9), (13, cf13), (15, cf15), (16, cf16), (17, cf17), (18, cf18), (19, cf19), (20, cf20), (21, cf21), (33, cf33), (34, cf34), (35, cf35), (36, cf36), (37, cf37), (38, cf38), (39, cf39), (43, cf43), (45, cf45), (48, cf48), (49, cf49), (50, cf50), (51, cf51), (55, cf55), (58, cf58), (59, cf59), (60, cf60), (72, cf72), (73, cf73), (74, cf74), (75, cf75), (76, cf76), (77, cf77), (78, cf78), (79, cf79), (80, cf80), (81, cf81), (82, cf82), (83, cf83), (84, cf84), (86, cf86), (89, cf89), (90, cf90), (91, cf91), (92, cf92), (93, cf93), (94, cf94), (95, cf95), (96, cf96), (97, cf97), (98, cf98), (100, cf100), (106, cf106), (107, cf107), (108, cf108), (109, cf109), (110, cf110), (111, cf111), (112, cf112), (113, cf113), (114, cf114), (115, cf115), (135, cf135), (136, cf136), (137, cf137), (138, cf138), (139, cf139), (140, cf140), (141, cf141), (142, cf142), (143, cf143), (144, cf144), (145, cf145), (146, cf146), (147, cf147), (148, cf148), (149, cf149), (150, cf150), (152, cf152), (153, cf153), (154, cf154), (155, cf155), (156, cf156), (157, cf157), (158, cf158), (159, cf159), (160, cf160), (161, cf161), (162, cf162), (163, cf163), (164, cf164), (165, cf165), (166, cf166), (167, cf167), (168, cf168), (169, cf169), (170, cf170), (171, cf171), (172, cf172), (173, cf173), (174, cf174), (182, cf182), (183, cf183), (184, cf184), (185, cf185), (186, cf186), (187, cf187), (188, cf188), (189, cf189), (190, cf190), (191, cf191), (192, cf192), (193, cf193), (194, cf194), (195, cf195), (196, cf196), (197, cf197), (198, cf198), (199, cf199), (200, cf200), (201, cf201), (202, cf202), (203, cf203), (204, cf204), (205, cf205), (206, cf206), (207, cf207), (208, cf208), (209, cf209), (210, cf210), (211, cf211), (212, cf212), (213, cf213), (214, cf214), (215, cf215), (216, cf216), (220, cf220), (221, cf221), (222, cf222), (223, cf223), (224, cf224), (225, cf225), (226, cf226), (227, cf227), (228, cf228), (231, cf231), (233, cf233), (234, cf234)]
noncomputable def G (f : Nat) : Option CF := look tab f
abbrev f_laws_FnWorldDeaf : Nat := 4
abbrev f_laws_FnWorldNets : Nat := 5
abbrev f_laws_FnWorldLetters : Nat := 8
abbrev f_laws_FnWorldTold : Nat := 9
abbrev f_laws_FnWorldSafe : Nat := 13
abbrev f_laws_FnWorldCut : Nat := 15
abbrev f_laws_FnWorldJoin : Nat := 16
abbrev f_laws_FnWorldStale : Nat := 17
abbrev f_laws_FnWorldTwice : Nat := 18
abbrev f_laws_FnWorldTurn : Nat := 19
abbrev f_laws_FnWorldCalm : Nat := 20
abbrev f_laws_FnWorldStill : Nat := 21
abbrev f_spec_DrawWorldPlay : Nat := 33
abbrev f_impl_WorldPlay : Nat := 34
abbrev f_spec_WorldPlay : Nat := 35
abbrev f_laws_lgWorld : Nat := 36
abbrev f_laws_lgOps : Nat := 37
abbrev f_laws_lgBegins : Nat := 38
abbrev f_laws_lgSafe : Nat := 39
abbrev f_impl_NodeOk : Nat := 43
abbrev f_impl_PoolNew : Nat := 45
abbrev f_impl_WorldOk : Nat := 48
abbrev f_impl_WorldDo : Nat := 49
abbrev f_laws_lgNode : Nat := 50
abbrev f_impl_WorldCalm : Nat := 51
abbrev f_impl_OpDo : Nat := 55
abbrev f_impl_NodeAsk : Nat := 58
abbrev f_laws_lgMsg : Nat := 59
abbrev f_impl_NodeHear : Nat := 60
abbrev f_spec_l6Open : Nat := 72
abbrev f_spec_l72Play : Nat := 73
abbrev f_spec_l6Rd_pick : Nat := 74
abbrev f_impl_WorldNew : Nat := 75
abbrev f_impl_World_do : Nat := 76
abbrev f_spec_WorldNew : Nat := 77
abbrev f_spec_l22Do : Nat := 78
abbrev f_spec_l22Copy : Nat := 79
abbrev f_impl_Node_pool : Nat := 80
abbrev f_impl_Pool_hasBlock : Nat := 81
abbrev f_impl_PoolOk : Nat := 82
abbrev f_impl_isTerm : Nat := 83
abbrev f_impl_areOps : Nat := 84
abbrev f_impl_StoreNew : Nat := 86
abbrev f_impl_doAll : Nat := 89
abbrev f_impl_within : Nat := 90
abbrev f_impl_isNode : Nat := 91
abbrev f_impl_World_areRight : Nat := 92
abbrev f_slices_ContainsFunc_Msg : Nat := 93
abbrev f_impl_WorldOk_c1 : Nat := 94
abbrev f_impl_isMsg : Nat := 95
abbrev f_impl_World_isCorrect : Nat := 96
abbrev f_impl_World_clone : Nat := 97
abbrev f_impl_World_calm : Nat := 98
abbrev f_spec_l6In : Nat := 100
abbrev f_impl_OpOk : Nat := 106
abbrev f_impl_PoolMake : Nat := 107
abbrev f_impl_PoolWrite : Nat := 108
abbrev f_impl_PoolClone : Nat := 109
abbrev f_impl_PoolGone : Nat := 110
abbrev f_spec_l72Event : Nat := 111
abbrev f_impl_Node_clone : Nat := 112
abbrev f_impl_Node_canTake : Nat := 113
abbrev f_impl_Node_hearCopy : Nat := 114
abbrev f_impl_Node_hearJoin : Nat := 115
abbrev f_impl_NodeNew : Nat := 135
abbrev f_impl_World_ask : Nat := 136
abbrev f_impl_World_net : Nat := 137
abbrev f_impl_World_node : Nat := 138
abbrev f_impl_World_takeOver : Nat := 139
abbrev f_impl_World_join : Nat := 140
abbrev f_spec_NodeNew : Nat := 141
abbrev f_spec_l22Ask : Nat := 142
abbrev f_spec_l22Net : Nat := 143
abbrev f_spec_l22Lead : Nat := 144
abbrev f_spec_l22Send : Nat := 145
abbrev f_spec_l21Copy : Nat := 146
abbrev f_impl_Pool_vol : Nat := 147
abbrev f_impl_StoreOk : Nat := 148
abbrev f_impl_VolOk : Nat := 149
abbrev f_impl_Vol_uses : Nat := 150
abbrev f_impl_Pool_clone : Nat := 152
abbrev f_impl_isPrefix : Nat := 153
abbrev f_slices_IndexFunc_Msg : Nat := 154
abbrev f_impl_World_isCurrent : Nat := 155
abbrev f_slices_Clone_Op : Nat := 156
abbrev f_impl_Msg_clone : Nat := 157
abbrev f_spec_l71Op : Nat := 158
abbrev f_spec_l13Run : Nat := 159
abbrev f_spec_PoolNew : Nat := 160
abbrev f_spec_OpOk : Nat := 161
abbrev f_impl_TextOk : Nat := 162
abbrev f_impl_isName : Nat := 163
abbrev f_impl_changed : Nat := 164
abbrev f_impl_PoolMake_c1 : Nat := 165
abbrev f_impl_Pool_insert : Nat := 166
abbrev f_impl_PoolWrite_c1 : Nat := 167
abbrev f_impl_drop : Nat := 168
abbrev f_impl_put : Nat := 169
abbrev f_impl_PoolClone_c1 : Nat := 170
abbrev f_slices_Clone_int : Nat := 171
abbrev f_impl_PoolGone_c1 : Nat := 172
abbrev f_slices_Delete_Vol : Nat := 173
abbrev f_spec_l71Fits : Nat := 174
abbrev f_impl_World_acknowledge : Nat := 182
abbrev f_impl_World_send : Nat := 183
abbrev f_slices_Delete_Msg : Nat := 184
abbrev f_impl_World_deliver : Nat := 185
abbrev f_spec_l21Ask : Nat := 186
abbrev f_spec_l22Done : Nat := 187
abbrev f_spec_l22Bring : Nat := 188
abbrev f_slices_IndexFunc_Vol : Nat := 189
abbrev f_impl_Pool_vol_c1 : Nat := 190
abbrev f_slices_ContainsFunc_Slot : Nat := 191
abbrev f_impl_StoreOk_c1 : Nat := 192
abbrev f_slices_Clone_Slot : Nat := 193
abbrev f_slices_Clone_Vol : Nat := 194
abbrev f_slices_Equal_Op : Nat := 195
abbrev f_spec_l6Rd_of : Nat := 196
abbrev f_spec_l71Text : Nat := 197
abbrev f_spec_l12Do : Nat := 198
abbrev f_spec_StoreNew : Nat := 199
abbrev f_spec_l3Name : Nat := 200
abbrev f_spec_TextOk : Nat := 201
abbrev f_slices_BinarySearchFunc_Vol : Nat := 202
abbrev f_impl_Pool_insert_c1 : Nat := 203
abbrev f_strings_Compare : Nat := 204
abbrev f_slices_Insert_Vol : Nat := 205
abbrev f_impl_find : Nat := 206
abbrev f_impl_TextPlace : Nat := 207
abbrev f_impl_TextNext : Nat := 208
abbrev f_spec_l11Copy : Nat := 209
abbrev f_spec_l21Add : Nat := 210
abbrev f_spec_l21Hear : Nat := 211
abbrev f_slices_IndexFunc_Slot : Nat := 212
abbrev f_spec_l11Make : Nat := 213
abbrev f_spec_l11Write : Nat := 214
abbrev f_spec_l11Clone : Nat := 215
abbrev f_spec_l11Gone : Nat := 216
abbrev f_impl_find_c1 : Nat := 220
abbrev f_impl_isSlot : Nat := 221
abbrev f_spec_l3Copy : Nat := 222
abbrev f_spec_l2Copy : Nat := 223
abbrev f_spec_l21Copied : Nat := 224
abbrev f_spec_l11At : Nat := 225
abbrev f_spec_l11Add : Nat := 226
abbrev f_spec_l2Drop : Nat := 227
abbrev f_spec_l2Put : Nat := 228
abbrev f_spec_l2Find : Nat := 231
abbrev f_spec_l1Place : Nat := 233
abbrev f_spec_l1Next : Nat := 234
end Go.Gn

