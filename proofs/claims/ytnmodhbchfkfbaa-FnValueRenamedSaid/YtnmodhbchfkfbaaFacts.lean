/- Facts on the types and functions of this seat, each closed. Printed by this project's own gen.py. -/
import Derived.Test.YtnmodhbchfkfbaaAy
import Derived.Test.YtnmodhbchfkfbaaProg
import Derived.KernelRfl
namespace Go.Proofs.Ytnmodhbchfkfbaa
open Go Go.Ax Go.Proofs
theorem fo13_0 : fieldOff Try.prog 13 0 = some 0 := by kernel_rfl
theorem fo13_1 : fieldOff Try.prog 13 1 = some 1 := by kernel_rfl
theorem fo14_0 : fieldOff Try.prog 14 0 = some 0 := by kernel_rfl
theorem fo14_1 : fieldOff Try.prog 14 1 = some 1 := by kernel_rfl
theorem fo18_0 : fieldOff Try.prog 18 0 = some 0 := by kernel_rfl
theorem fo19_0 : fieldOff Try.prog 19 0 = some 0 := by kernel_rfl
theorem fo29_0 : fieldOff Try.prog 29 0 = some 0 := by kernel_rfl
theorem fo29_1 : fieldOff Try.prog 29 1 = some 1 := by kernel_rfl
theorem fo29_2 : fieldOff Try.prog 29 2 = some 2 := by kernel_rfl
theorem fo29_3 : fieldOff Try.prog 29 3 = some 3 := by kernel_rfl
theorem fo30_0 : fieldOff Try.prog 30 0 = some 0 := by kernel_rfl
theorem fo30_1 : fieldOff Try.prog 30 1 = some 1 := by kernel_rfl
theorem fo30_2 : fieldOff Try.prog 30 2 = some 2 := by kernel_rfl
theorem fo30_3 : fieldOff Try.prog 30 3 = some 3 := by kernel_rfl
theorem fo48_0 : fieldOff Try.prog 48 0 = some 0 := by kernel_rfl
theorem fo48_1 : fieldOff Try.prog 48 1 = some 1 := by kernel_rfl
theorem fo49_0 : fieldOff Try.prog 49 0 = some 0 := by kernel_rfl
theorem fo49_1 : fieldOff Try.prog 49 1 = some 1 := by kernel_rfl
theorem fo70_0 : fieldOff Try.prog 70 0 = some 0 := by kernel_rfl
theorem fo70_1 : fieldOff Try.prog 70 1 = some 1 := by kernel_rfl
theorem fo70_2 : fieldOff Try.prog 70 2 = some 2 := by kernel_rfl
theorem fo70_3 : fieldOff Try.prog 70 3 = some 3 := by kernel_rfl
theorem fo71_0 : fieldOff Try.prog 71 0 = some 0 := by kernel_rfl
theorem fo71_1 : fieldOff Try.prog 71 1 = some 1 := by kernel_rfl
theorem fo71_2 : fieldOff Try.prog 71 2 = some 2 := by kernel_rfl
theorem fo71_3 : fieldOff Try.prog 71 3 = some 3 := by kernel_rfl
theorem fo7_0 : fieldOff Try.prog 7 0 = some 0 := by kernel_rfl
theorem fo7_1 : fieldOff Try.prog 7 1 = some 1 := by kernel_rfl
theorem fo7_2 : fieldOff Try.prog 7 2 = some 2 := by kernel_rfl
theorem fo7_3 : fieldOff Try.prog 7 3 = some 3 := by kernel_rfl
theorem fo81_0 : fieldOff Try.prog 81 0 = some 0 := by kernel_rfl
theorem fo81_1 : fieldOff Try.prog 81 1 = some 1 := by kernel_rfl
theorem fo81_10 : fieldOff Try.prog 81 10 = some 10 := by kernel_rfl
theorem fo81_2 : fieldOff Try.prog 81 2 = some 2 := by kernel_rfl
theorem fo81_3 : fieldOff Try.prog 81 3 = some 3 := by kernel_rfl
theorem fo81_4 : fieldOff Try.prog 81 4 = some 4 := by kernel_rfl
theorem fo81_5 : fieldOff Try.prog 81 5 = some 5 := by kernel_rfl
theorem fo81_6 : fieldOff Try.prog 81 6 = some 6 := by kernel_rfl
theorem fo81_7 : fieldOff Try.prog 81 7 = some 7 := by kernel_rfl
theorem fo81_8 : fieldOff Try.prog 81 8 = some 8 := by kernel_rfl
theorem fo81_9 : fieldOff Try.prog 81 9 = some 9 := by kernel_rfl
theorem fo82_0 : fieldOff Try.prog 82 0 = some 0 := by kernel_rfl
theorem fo82_1 : fieldOff Try.prog 82 1 = some 1 := by kernel_rfl
theorem fo82_10 : fieldOff Try.prog 82 10 = some 10 := by kernel_rfl
theorem fo82_2 : fieldOff Try.prog 82 2 = some 2 := by kernel_rfl
theorem fo82_3 : fieldOff Try.prog 82 3 = some 3 := by kernel_rfl
theorem fo82_4 : fieldOff Try.prog 82 4 = some 4 := by kernel_rfl
theorem fo82_5 : fieldOff Try.prog 82 5 = some 5 := by kernel_rfl
theorem fo82_6 : fieldOff Try.prog 82 6 = some 6 := by kernel_rfl
theorem fo82_7 : fieldOff Try.prog 82 7 = some 7 := by kernel_rfl
theorem fo82_8 : fieldOff Try.prog 82 8 = some 8 := by kernel_rfl
theorem fo82_9 : fieldOff Try.prog 82 9 = some 9 := by kernel_rfl
theorem fo8_0 : fieldOff Try.prog 8 0 = some 0 := by kernel_rfl
theorem fo8_1 : fieldOff Try.prog 8 1 = some 1 := by kernel_rfl
theorem fo8_2 : fieldOff Try.prog 8 2 = some 2 := by kernel_rfl
theorem fo8_3 : fieldOff Try.prog 8 3 = some 3 := by kernel_rfl
theorem kd10 : kindT Try.prog 10 = some (false, 1) := by kernel_rfl
theorem kd11 : kindT Try.prog 11 = some (false, 1) := by kernel_rfl
theorem kd12 : kindT Try.prog 12 = some (false, 1) := by kernel_rfl
theorem kd13 : kindT Try.prog 13 = some (true, 2) := by kernel_rfl
theorem kd14 : kindT Try.prog 14 = some (true, 2) := by kernel_rfl
theorem kd15 : kindT Try.prog 15 = some (false, 1) := by kernel_rfl
theorem kd16 : kindT Try.prog 16 = some (false, 1) := by kernel_rfl
theorem kd17 : kindT Try.prog 17 = some (false, 1) := by kernel_rfl
theorem kd18 : kindT Try.prog 18 = some (true, 1) := by kernel_rfl
theorem kd19 : kindT Try.prog 19 = some (true, 1) := by kernel_rfl
theorem kd2 : kindT Try.prog 2 = some (false, 1) := by kernel_rfl
theorem kd21 : kindT Try.prog 21 = some (false, 1) := by kernel_rfl
theorem kd22 : kindT Try.prog 22 = some (false, 1) := by kernel_rfl
theorem kd28 : kindT Try.prog 28 = some (false, 1) := by kernel_rfl
theorem kd29 : kindT Try.prog 29 = some (true, 4) := by kernel_rfl
theorem kd3 : kindT Try.prog 3 = some (false, 1) := by kernel_rfl
theorem kd30 : kindT Try.prog 30 = some (true, 4) := by kernel_rfl
theorem kd36 : kindT Try.prog 36 = some (false, 1) := by kernel_rfl
theorem kd4 : kindT Try.prog 4 = some (false, 1) := by kernel_rfl
theorem kd41 : kindT Try.prog 41 = some (false, 1) := by kernel_rfl
theorem kd48 : kindT Try.prog 48 = some (true, 2) := by kernel_rfl
theorem kd49 : kindT Try.prog 49 = some (true, 2) := by kernel_rfl
theorem kd5 : kindT Try.prog 5 = some (false, 1) := by kernel_rfl
theorem kd55 : kindT Try.prog 55 = some (false, 1) := by kernel_rfl
theorem kd6 : kindT Try.prog 6 = some (false, 1) := by kernel_rfl
theorem kd66 : kindT Try.prog 66 = some (false, 1) := by kernel_rfl
theorem kd67 : kindT Try.prog 67 = some (false, 1) := by kernel_rfl
theorem kd7 : kindT Try.prog 7 = some (true, 4) := by kernel_rfl
theorem kd70 : kindT Try.prog 70 = some (true, 4) := by kernel_rfl
theorem kd71 : kindT Try.prog 71 = some (true, 4) := by kernel_rfl
theorem kd73 : kindT Try.prog 73 = some (true, 0) := by kernel_rfl
theorem kd74 : kindT Try.prog 74 = some (true, 0) := by kernel_rfl
theorem kd75 : kindT Try.prog 75 = some (false, 1) := by kernel_rfl
theorem kd76 : kindT Try.prog 76 = some (false, 1) := by kernel_rfl
theorem kd78 : kindT Try.prog 78 = some (false, 1) := by kernel_rfl
theorem kd79 : kindT Try.prog 79 = some (false, 1) := by kernel_rfl
theorem kd8 : kindT Try.prog 8 = some (true, 4) := by kernel_rfl
theorem kd80 : kindT Try.prog 80 = some (false, 1) := by kernel_rfl
theorem kd81 : kindT Try.prog 81 = some (true, 11) := by kernel_rfl
theorem kd82 : kindT Try.prog 82 = some (true, 11) := by kernel_rfl
theorem kd9 : kindT Try.prog 9 = some (false, 1) := by kernel_rfl
theorem nm10 : (Try.f10.name == "runtime.NumGoroutine") = false := by kernel_rfl
theorem nm11 : (Try.f11.name == "runtime.NumGoroutine") = false := by kernel_rfl
theorem nm12 : (Try.f12.name == "runtime.NumGoroutine") = false := by kernel_rfl
theorem nm13 : (Try.f13.name == "runtime.NumGoroutine") = false := by kernel_rfl
theorem nm14 : (Try.f14.name == "runtime.NumGoroutine") = false := by kernel_rfl
theorem nm15 : (Try.f15.name == "runtime.NumGoroutine") = false := by kernel_rfl
theorem nm16 : (Try.f16.name == "runtime.NumGoroutine") = false := by kernel_rfl
theorem nm17 : (Try.f17.name == "runtime.NumGoroutine") = false := by kernel_rfl
theorem nm18 : (Try.f18.name == "runtime.NumGoroutine") = false := by kernel_rfl
theorem nm19 : (Try.f19.name == "runtime.NumGoroutine") = false := by kernel_rfl
theorem nm20 : (Try.f20.name == "runtime.NumGoroutine") = false := by kernel_rfl
theorem nm21 : (Try.f21.name == "runtime.NumGoroutine") = false := by kernel_rfl
theorem nm22 : (Try.f22.name == "runtime.NumGoroutine") = false := by kernel_rfl
theorem nm23 : (Try.f23.name == "runtime.NumGoroutine") = false := by kernel_rfl
theorem nm24 : (Try.f24.name == "runtime.NumGoroutine") = false := by kernel_rfl
theorem nm25 : (Try.f25.name == "runtime.NumGoroutine") = false := by kernel_rfl
theorem nm26 : (Try.f26.name == "runtime.NumGoroutine") = false := by kernel_rfl
theorem nm27 : (Try.f27.name == "runtime.NumGoroutine") = false := by kernel_rfl
theorem nm28 : (Try.f28.name == "runtime.NumGoroutine") = false := by kernel_rfl
theorem nm29 : (Try.f29.name == "runtime.NumGoroutine") = false := by kernel_rfl
theorem nm3 : (Try.f3.name == "runtime.NumGoroutine") = false := by kernel_rfl
theorem nm30 : (Try.f30.name == "runtime.NumGoroutine") = false := by kernel_rfl
theorem nm31 : (Try.f31.name == "runtime.NumGoroutine") = false := by kernel_rfl
theorem nm32 : (Try.f32.name == "runtime.NumGoroutine") = false := by kernel_rfl
theorem nm33 : (Try.f33.name == "runtime.NumGoroutine") = false := by kernel_rfl
theorem nm34 : (Try.f34.name == "runtime.NumGoroutine") = false := by kernel_rfl
theorem nm35 : (Try.f35.name == "runtime.NumGoroutine") = false := by kernel_rfl
theorem nm36 : (Try.f36.name == "runtime.NumGoroutine") = false := by kernel_rfl
theorem nm37 : (Try.f37.name == "runtime.NumGoroutine") = false := by kernel_rfl
theorem nm38 : (Try.f38.name == "runtime.NumGoroutine") = false := by kernel_rfl
theorem nm39 : (Try.f39.name == "runtime.NumGoroutine") = false := by kernel_rfl
theorem nm4 : (Try.f4.name == "runtime.NumGoroutine") = false := by kernel_rfl
theorem nm40 : (Try.f40.name == "runtime.NumGoroutine") = false := by kernel_rfl
theorem nm41 : (Try.f41.name == "runtime.NumGoroutine") = false := by kernel_rfl
theorem nm42 : (Try.f42.name == "runtime.NumGoroutine") = false := by kernel_rfl
theorem nm43 : (Try.f43.name == "runtime.NumGoroutine") = false := by kernel_rfl
theorem nm44 : (Try.f44.name == "runtime.NumGoroutine") = false := by kernel_rfl
theorem nm45 : (Try.f45.name == "runtime.NumGoroutine") = false := by kernel_rfl
theorem nm46 : (Try.f46.name == "runtime.NumGoroutine") = false := by kernel_rfl
theorem nm47 : (Try.f47.name == "runtime.NumGoroutine") = false := by kernel_rfl
theorem nm48 : (Try.f48.name == "runtime.NumGoroutine") = false := by kernel_rfl
theorem nm49 : (Try.f49.name == "runtime.NumGoroutine") = false := by kernel_rfl
theorem nm5 : (Try.f5.name == "runtime.NumGoroutine") = false := by kernel_rfl
theorem nm50 : (Try.f50.name == "runtime.NumGoroutine") = false := by kernel_rfl
theorem nm51 : (Try.f51.name == "runtime.NumGoroutine") = false := by kernel_rfl
theorem nm52 : (Try.f52.name == "runtime.NumGoroutine") = false := by kernel_rfl
theorem nm53 : (Try.f53.name == "runtime.NumGoroutine") = false := by kernel_rfl
theorem nm6 : (Try.f6.name == "runtime.NumGoroutine") = false := by kernel_rfl
theorem nm7 : (Try.f7.name == "runtime.NumGoroutine") = false := by kernel_rfl
theorem nm76 : (Try.f76.name == "runtime.NumGoroutine") = false := by kernel_rfl
theorem nm8 : (Try.f8.name == "runtime.NumGoroutine") = false := by kernel_rfl
theorem nm9 : (Try.f9.name == "runtime.NumGoroutine") = false := by kernel_rfl
theorem pl13 : structPl Try.prog 13 = some [(0, 1), (1, 1)] := by kernel_rfl
theorem pl14 : structPl Try.prog 14 = some [(0, 1), (1, 1)] := by kernel_rfl
theorem pl18 : structPl Try.prog 18 = some [(0, 1)] := by kernel_rfl
theorem pl19 : structPl Try.prog 19 = some [(0, 1)] := by kernel_rfl
theorem pl29 : structPl Try.prog 29 = some [(0, 1), (1, 1), (2, 1), (3, 1)] := by kernel_rfl
theorem pl30 : structPl Try.prog 30 = some [(0, 1), (1, 1), (2, 1), (3, 1)] := by kernel_rfl
theorem pl48 : structPl Try.prog 48 = some [(0, 1), (1, 1)] := by kernel_rfl
theorem pl49 : structPl Try.prog 49 = some [(0, 1), (1, 1)] := by kernel_rfl
theorem pl7 : structPl Try.prog 7 = some [(0, 1), (1, 1), (2, 1), (3, 1)] := by kernel_rfl
theorem pl70 : structPl Try.prog 70 = some [(0, 1), (1, 1), (2, 1), (3, 1)] := by kernel_rfl
theorem pl71 : structPl Try.prog 71 = some [(0, 1), (1, 1), (2, 1), (3, 1)] := by kernel_rfl
theorem pl73 : structPl Try.prog 73 = some [(0, 0)] := by kernel_rfl
theorem pl74 : structPl Try.prog 74 = some [(0, 0)] := by kernel_rfl
theorem pl8 : structPl Try.prog 8 = some [(0, 1), (1, 1), (2, 1), (3, 1)] := by kernel_rfl
theorem pl81 : structPl Try.prog 81 = some [(0, 1), (1, 1), (2, 1), (3, 1), (4, 1), (5, 1), (6, 1), (7, 1), (8, 1), (9, 1), (10, 1)] := by kernel_rfl
theorem pl82 : structPl Try.prog 82 = some [(0, 1), (1, 1), (2, 1), (3, 1), (4, 1), (5, 1), (6, 1), (7, 1), (8, 1), (9, 1), (10, 1)] := by kernel_rfl
theorem sl22 : slElem Try.prog 22 = some (5, 1, 1) := by kernel_rfl
theorem sl28 : slElem Try.prog 28 = some (30, 4, 56) := by kernel_rfl
theorem sl41 : slElem Try.prog 41 = some (9, 1, 16) := by kernel_rfl
theorem sl55 : slElem Try.prog 55 = some (3, 1, 8) := by kernel_rfl
theorem z10 : zeroT Try.prog 10 = some (.string ⟨#[]⟩) := by kernel_rfl
theorem z11 : zeroT Try.prog 11 = some (.string ⟨#[]⟩) := by kernel_rfl
theorem z12 : zeroT Try.prog 12 = some (.int .u64 0) := by kernel_rfl
theorem z13 : zeroT Try.prog 13 = some (.agg #[(.string ⟨#[]⟩), (.int .u64 0)]) := by kernel_rfl
theorem z14 : zeroT Try.prog 14 = some (.agg #[(.string ⟨#[]⟩), (.int .u64 0)]) := by kernel_rfl
theorem z15 : zeroT Try.prog 15 = some (.pointer none) := by kernel_rfl
theorem z16 : zeroT Try.prog 16 = some (.pointer none) := by kernel_rfl
theorem z17 : zeroT Try.prog 17 = some (.pointer none) := by kernel_rfl
theorem z18 : zeroT Try.prog 18 = some (.agg #[(.pointer none)]) := by kernel_rfl
theorem z19 : zeroT Try.prog 19 = some (.agg #[(.pointer none)]) := by kernel_rfl
theorem z2 : zeroT Try.prog 2 = some (.int .i64 0) := by kernel_rfl
theorem z21 : zeroT Try.prog 21 = some (.int .i32 0) := by kernel_rfl
theorem z22 : zeroT Try.prog 22 = some (.slice none 0 0) := by kernel_rfl
theorem z28 : zeroT Try.prog 28 = some (.slice none 0 0) := by kernel_rfl
theorem z29 : zeroT Try.prog 29 = some (.agg #[(.int .i64 0), (.int .i64 0), (.string ⟨#[]⟩), (.slice none 0 0)]) := by kernel_rfl
theorem z3 : zeroT Try.prog 3 = some (.int .i64 0) := by kernel_rfl
theorem z30 : zeroT Try.prog 30 = some (.agg #[(.int .i64 0), (.int .i64 0), (.string ⟨#[]⟩), (.slice none 0 0)]) := by kernel_rfl
theorem z36 : zeroT Try.prog 36 = some (.pointer none) := by kernel_rfl
theorem z4 : zeroT Try.prog 4 = some (.bool false) := by kernel_rfl
theorem z41 : zeroT Try.prog 41 = some (.slice none 0 0) := by kernel_rfl
theorem z48 : zeroT Try.prog 48 = some (.agg #[(.slice none 0 0), (.int .i64 0)]) := by kernel_rfl
theorem z49 : zeroT Try.prog 49 = some (.agg #[(.slice none 0 0), (.int .i64 0)]) := by kernel_rfl
theorem z5 : zeroT Try.prog 5 = some (.int .u8 0) := by kernel_rfl
theorem z55 : zeroT Try.prog 55 = some (.slice none 0 0) := by kernel_rfl
theorem z6 : zeroT Try.prog 6 = some (.int .u8 0) := by kernel_rfl
theorem z66 : zeroT Try.prog 66 = some (.int .u64 0) := by kernel_rfl
theorem z67 : zeroT Try.prog 67 = some (.int .u32 0) := by kernel_rfl
theorem z7 : zeroT Try.prog 7 = some (.agg #[(.int .i64 0), (.int .i64 0), (.bool false), (.int .u8 0)]) := by kernel_rfl
theorem z70 : zeroT Try.prog 70 = some (.agg #[(.pointer none), (.pointer none), (.pointer none), (.string ⟨#[]⟩)]) := by kernel_rfl
theorem z71 : zeroT Try.prog 71 = some (.agg #[(.pointer none), (.pointer none), (.pointer none), (.string ⟨#[]⟩)]) := by kernel_rfl
theorem z73 : zeroT Try.prog 73 = some (.agg #[]) := by kernel_rfl
theorem z74 : zeroT Try.prog 74 = some (.agg #[]) := by kernel_rfl
theorem z75 : zeroT Try.prog 75 = some (.int .u8 0) := by kernel_rfl
theorem z76 : zeroT Try.prog 76 = some (.int .u8 0) := by kernel_rfl
theorem z78 : zeroT Try.prog 78 = some (.pointer none) := by kernel_rfl
theorem z79 : zeroT Try.prog 79 = some (.int .i32 0) := by kernel_rfl
theorem z8 : zeroT Try.prog 8 = some (.agg #[(.int .i64 0), (.int .i64 0), (.bool false), (.int .u8 0)]) := by kernel_rfl
theorem z80 : zeroT Try.prog 80 = some (.int .i32 0) := by kernel_rfl
theorem z9 : zeroT Try.prog 9 = some (.string ⟨#[]⟩) := by kernel_rfl
end Go.Proofs.Ytnmodhbchfkfbaa
