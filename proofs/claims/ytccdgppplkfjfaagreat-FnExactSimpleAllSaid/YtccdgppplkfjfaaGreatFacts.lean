/- Facts on the types and functions of this seat, each closed. Printed by this project's own gen.py. -/
import Derived.Test.YtccdgppplkfjfaaGreatAy
import Derived.Test.YtccdgppplkfjfaaGreatProg
import Derived.KernelRfl
namespace Go.Proofs.YtccdgppplkfjfaaGreat
open Go Go.Ax Go.Proofs
theorem fo100_0 : fieldOff Tryz.prog 100 0 = some 0 := by kernel_rfl
theorem fo100_1 : fieldOff Tryz.prog 100 1 = some 1 := by kernel_rfl
theorem fo100_2 : fieldOff Tryz.prog 100 2 = some 2 := by kernel_rfl
theorem fo100_3 : fieldOff Tryz.prog 100 3 = some 3 := by kernel_rfl
theorem fo101_0 : fieldOff Tryz.prog 101 0 = some 0 := by kernel_rfl
theorem fo101_1 : fieldOff Tryz.prog 101 1 = some 1 := by kernel_rfl
theorem fo101_2 : fieldOff Tryz.prog 101 2 = some 2 := by kernel_rfl
theorem fo101_3 : fieldOff Tryz.prog 101 3 = some 3 := by kernel_rfl
theorem fo112_0 : fieldOff Tryz.prog 112 0 = some 0 := by kernel_rfl
theorem fo112_1 : fieldOff Tryz.prog 112 1 = some 1 := by kernel_rfl
theorem fo112_10 : fieldOff Tryz.prog 112 10 = some 10 := by kernel_rfl
theorem fo112_2 : fieldOff Tryz.prog 112 2 = some 2 := by kernel_rfl
theorem fo112_3 : fieldOff Tryz.prog 112 3 = some 3 := by kernel_rfl
theorem fo112_4 : fieldOff Tryz.prog 112 4 = some 4 := by kernel_rfl
theorem fo112_5 : fieldOff Tryz.prog 112 5 = some 5 := by kernel_rfl
theorem fo112_6 : fieldOff Tryz.prog 112 6 = some 6 := by kernel_rfl
theorem fo112_7 : fieldOff Tryz.prog 112 7 = some 7 := by kernel_rfl
theorem fo112_8 : fieldOff Tryz.prog 112 8 = some 8 := by kernel_rfl
theorem fo112_9 : fieldOff Tryz.prog 112 9 = some 9 := by kernel_rfl
theorem fo113_0 : fieldOff Tryz.prog 113 0 = some 0 := by kernel_rfl
theorem fo113_1 : fieldOff Tryz.prog 113 1 = some 1 := by kernel_rfl
theorem fo113_10 : fieldOff Tryz.prog 113 10 = some 10 := by kernel_rfl
theorem fo113_2 : fieldOff Tryz.prog 113 2 = some 2 := by kernel_rfl
theorem fo113_3 : fieldOff Tryz.prog 113 3 = some 3 := by kernel_rfl
theorem fo113_4 : fieldOff Tryz.prog 113 4 = some 4 := by kernel_rfl
theorem fo113_5 : fieldOff Tryz.prog 113 5 = some 5 := by kernel_rfl
theorem fo113_6 : fieldOff Tryz.prog 113 6 = some 6 := by kernel_rfl
theorem fo113_7 : fieldOff Tryz.prog 113 7 = some 7 := by kernel_rfl
theorem fo113_8 : fieldOff Tryz.prog 113 8 = some 8 := by kernel_rfl
theorem fo113_9 : fieldOff Tryz.prog 113 9 = some 9 := by kernel_rfl
theorem fo13_0 : fieldOff Tryz.prog 13 0 = some 0 := by kernel_rfl
theorem fo13_1 : fieldOff Tryz.prog 13 1 = some 1 := by kernel_rfl
theorem fo14_0 : fieldOff Tryz.prog 14 0 = some 0 := by kernel_rfl
theorem fo14_1 : fieldOff Tryz.prog 14 1 = some 1 := by kernel_rfl
theorem fo18_0 : fieldOff Tryz.prog 18 0 = some 0 := by kernel_rfl
theorem fo19_0 : fieldOff Tryz.prog 19 0 = some 0 := by kernel_rfl
theorem fo23_0 : fieldOff Tryz.prog 23 0 = some 0 := by kernel_rfl
theorem fo23_1 : fieldOff Tryz.prog 23 1 = some 1 := by kernel_rfl
theorem fo23_2 : fieldOff Tryz.prog 23 2 = some 2 := by kernel_rfl
theorem fo23_3 : fieldOff Tryz.prog 23 3 = some 3 := by kernel_rfl
theorem fo24_0 : fieldOff Tryz.prog 24 0 = some 0 := by kernel_rfl
theorem fo24_1 : fieldOff Tryz.prog 24 1 = some 1 := by kernel_rfl
theorem fo24_2 : fieldOff Tryz.prog 24 2 = some 2 := by kernel_rfl
theorem fo24_3 : fieldOff Tryz.prog 24 3 = some 3 := by kernel_rfl
theorem fo27_0 : fieldOff Tryz.prog 27 0 = some 0 := by kernel_rfl
theorem fo27_1 : fieldOff Tryz.prog 27 1 = some 1 := by kernel_rfl
theorem fo27_2 : fieldOff Tryz.prog 27 2 = some 2 := by kernel_rfl
theorem fo27_3 : fieldOff Tryz.prog 27 3 = some 3 := by kernel_rfl
theorem fo28_0 : fieldOff Tryz.prog 28 0 = some 0 := by kernel_rfl
theorem fo28_1 : fieldOff Tryz.prog 28 1 = some 1 := by kernel_rfl
theorem fo28_2 : fieldOff Tryz.prog 28 2 = some 2 := by kernel_rfl
theorem fo28_3 : fieldOff Tryz.prog 28 3 = some 3 := by kernel_rfl
theorem fo64_0 : fieldOff Tryz.prog 64 0 = some 0 := by kernel_rfl
theorem fo64_1 : fieldOff Tryz.prog 64 1 = some 1 := by kernel_rfl
theorem fo64_2 : fieldOff Tryz.prog 64 2 = some 2 := by kernel_rfl
theorem fo64_3 : fieldOff Tryz.prog 64 3 = some 3 := by kernel_rfl
theorem fo65_0 : fieldOff Tryz.prog 65 0 = some 0 := by kernel_rfl
theorem fo65_1 : fieldOff Tryz.prog 65 1 = some 1 := by kernel_rfl
theorem fo65_2 : fieldOff Tryz.prog 65 2 = some 2 := by kernel_rfl
theorem fo65_3 : fieldOff Tryz.prog 65 3 = some 3 := by kernel_rfl
theorem fo7_0 : fieldOff Tryz.prog 7 0 = some 0 := by kernel_rfl
theorem fo7_1 : fieldOff Tryz.prog 7 1 = some 1 := by kernel_rfl
theorem fo7_2 : fieldOff Tryz.prog 7 2 = some 2 := by kernel_rfl
theorem fo7_3 : fieldOff Tryz.prog 7 3 = some 3 := by kernel_rfl
theorem fo8_0 : fieldOff Tryz.prog 8 0 = some 0 := by kernel_rfl
theorem fo8_1 : fieldOff Tryz.prog 8 1 = some 1 := by kernel_rfl
theorem fo8_2 : fieldOff Tryz.prog 8 2 = some 2 := by kernel_rfl
theorem fo8_3 : fieldOff Tryz.prog 8 3 = some 3 := by kernel_rfl
theorem kd10 : kindT Tryz.prog 10 = some (false, 1) := by kernel_rfl
theorem kd100 : kindT Tryz.prog 100 = some (true, 4) := by kernel_rfl
theorem kd101 : kindT Tryz.prog 101 = some (true, 4) := by kernel_rfl
theorem kd103 : kindT Tryz.prog 103 = some (true, 0) := by kernel_rfl
theorem kd104 : kindT Tryz.prog 104 = some (true, 0) := by kernel_rfl
theorem kd106 : kindT Tryz.prog 106 = some (false, 1) := by kernel_rfl
theorem kd107 : kindT Tryz.prog 107 = some (false, 1) := by kernel_rfl
theorem kd109 : kindT Tryz.prog 109 = some (false, 1) := by kernel_rfl
theorem kd11 : kindT Tryz.prog 11 = some (false, 1) := by kernel_rfl
theorem kd110 : kindT Tryz.prog 110 = some (false, 1) := by kernel_rfl
theorem kd111 : kindT Tryz.prog 111 = some (false, 1) := by kernel_rfl
theorem kd112 : kindT Tryz.prog 112 = some (true, 11) := by kernel_rfl
theorem kd113 : kindT Tryz.prog 113 = some (true, 11) := by kernel_rfl
theorem kd12 : kindT Tryz.prog 12 = some (false, 1) := by kernel_rfl
theorem kd13 : kindT Tryz.prog 13 = some (true, 2) := by kernel_rfl
theorem kd14 : kindT Tryz.prog 14 = some (true, 2) := by kernel_rfl
theorem kd15 : kindT Tryz.prog 15 = some (false, 1) := by kernel_rfl
theorem kd16 : kindT Tryz.prog 16 = some (false, 1) := by kernel_rfl
theorem kd17 : kindT Tryz.prog 17 = some (false, 1) := by kernel_rfl
theorem kd18 : kindT Tryz.prog 18 = some (true, 1) := by kernel_rfl
theorem kd19 : kindT Tryz.prog 19 = some (true, 1) := by kernel_rfl
theorem kd2 : kindT Tryz.prog 2 = some (false, 1) := by kernel_rfl
theorem kd21 : kindT Tryz.prog 21 = some (false, 1) := by kernel_rfl
theorem kd22 : kindT Tryz.prog 22 = some (false, 1) := by kernel_rfl
theorem kd23 : kindT Tryz.prog 23 = some (true, 4) := by kernel_rfl
theorem kd24 : kindT Tryz.prog 24 = some (true, 4) := by kernel_rfl
theorem kd26 : kindT Tryz.prog 26 = some (false, 1) := by kernel_rfl
theorem kd27 : kindT Tryz.prog 27 = some (true, 4) := by kernel_rfl
theorem kd28 : kindT Tryz.prog 28 = some (true, 4) := by kernel_rfl
theorem kd3 : kindT Tryz.prog 3 = some (false, 1) := by kernel_rfl
theorem kd4 : kindT Tryz.prog 4 = some (false, 1) := by kernel_rfl
theorem kd46 : kindT Tryz.prog 46 = some (false, 1) := by kernel_rfl
theorem kd5 : kindT Tryz.prog 5 = some (false, 1) := by kernel_rfl
theorem kd52 : kindT Tryz.prog 52 = some (false, 1) := by kernel_rfl
theorem kd58 : kindT Tryz.prog 58 = some (false, 1) := by kernel_rfl
theorem kd6 : kindT Tryz.prog 6 = some (false, 1) := by kernel_rfl
theorem kd63 : kindT Tryz.prog 63 = some (false, 1) := by kernel_rfl
theorem kd64 : kindT Tryz.prog 64 = some (true, 4) := by kernel_rfl
theorem kd65 : kindT Tryz.prog 65 = some (true, 4) := by kernel_rfl
theorem kd7 : kindT Tryz.prog 7 = some (true, 4) := by kernel_rfl
theorem kd8 : kindT Tryz.prog 8 = some (true, 4) := by kernel_rfl
theorem kd82 : kindT Tryz.prog 82 = some (false, 1) := by kernel_rfl
theorem kd87 : kindT Tryz.prog 87 = some (false, 1) := by kernel_rfl
theorem kd9 : kindT Tryz.prog 9 = some (false, 1) := by kernel_rfl
theorem kd95 : kindT Tryz.prog 95 = some (false, 1) := by kernel_rfl
theorem kd96 : kindT Tryz.prog 96 = some (false, 1) := by kernel_rfl
theorem nm10 : (Tryz.f10.name == "runtime.NumGoroutine") = false := by kernel_rfl
theorem nm11 : (Tryz.f11.name == "runtime.NumGoroutine") = false := by kernel_rfl
theorem nm119 : (Tryz.f119.name == "runtime.NumGoroutine") = false := by kernel_rfl
theorem nm12 : (Tryz.f12.name == "runtime.NumGoroutine") = false := by kernel_rfl
theorem nm13 : (Tryz.f13.name == "runtime.NumGoroutine") = false := by kernel_rfl
theorem nm14 : (Tryz.f14.name == "runtime.NumGoroutine") = false := by kernel_rfl
theorem nm15 : (Tryz.f15.name == "runtime.NumGoroutine") = false := by kernel_rfl
theorem nm16 : (Tryz.f16.name == "runtime.NumGoroutine") = false := by kernel_rfl
theorem nm17 : (Tryz.f17.name == "runtime.NumGoroutine") = false := by kernel_rfl
theorem nm18 : (Tryz.f18.name == "runtime.NumGoroutine") = false := by kernel_rfl
theorem nm19 : (Tryz.f19.name == "runtime.NumGoroutine") = false := by kernel_rfl
theorem nm20 : (Tryz.f20.name == "runtime.NumGoroutine") = false := by kernel_rfl
theorem nm21 : (Tryz.f21.name == "runtime.NumGoroutine") = false := by kernel_rfl
theorem nm22 : (Tryz.f22.name == "runtime.NumGoroutine") = false := by kernel_rfl
theorem nm23 : (Tryz.f23.name == "runtime.NumGoroutine") = false := by kernel_rfl
theorem nm24 : (Tryz.f24.name == "runtime.NumGoroutine") = false := by kernel_rfl
theorem nm25 : (Tryz.f25.name == "runtime.NumGoroutine") = false := by kernel_rfl
theorem nm26 : (Tryz.f26.name == "runtime.NumGoroutine") = false := by kernel_rfl
theorem nm27 : (Tryz.f27.name == "runtime.NumGoroutine") = false := by kernel_rfl
theorem nm28 : (Tryz.f28.name == "runtime.NumGoroutine") = false := by kernel_rfl
theorem nm29 : (Tryz.f29.name == "runtime.NumGoroutine") = false := by kernel_rfl
theorem nm3 : (Tryz.f3.name == "runtime.NumGoroutine") = false := by kernel_rfl
theorem nm30 : (Tryz.f30.name == "runtime.NumGoroutine") = false := by kernel_rfl
theorem nm31 : (Tryz.f31.name == "runtime.NumGoroutine") = false := by kernel_rfl
theorem nm32 : (Tryz.f32.name == "runtime.NumGoroutine") = false := by kernel_rfl
theorem nm33 : (Tryz.f33.name == "runtime.NumGoroutine") = false := by kernel_rfl
theorem nm34 : (Tryz.f34.name == "runtime.NumGoroutine") = false := by kernel_rfl
theorem nm35 : (Tryz.f35.name == "runtime.NumGoroutine") = false := by kernel_rfl
theorem nm36 : (Tryz.f36.name == "runtime.NumGoroutine") = false := by kernel_rfl
theorem nm37 : (Tryz.f37.name == "runtime.NumGoroutine") = false := by kernel_rfl
theorem nm38 : (Tryz.f38.name == "runtime.NumGoroutine") = false := by kernel_rfl
theorem nm39 : (Tryz.f39.name == "runtime.NumGoroutine") = false := by kernel_rfl
theorem nm4 : (Tryz.f4.name == "runtime.NumGoroutine") = false := by kernel_rfl
theorem nm40 : (Tryz.f40.name == "runtime.NumGoroutine") = false := by kernel_rfl
theorem nm41 : (Tryz.f41.name == "runtime.NumGoroutine") = false := by kernel_rfl
theorem nm42 : (Tryz.f42.name == "runtime.NumGoroutine") = false := by kernel_rfl
theorem nm43 : (Tryz.f43.name == "runtime.NumGoroutine") = false := by kernel_rfl
theorem nm44 : (Tryz.f44.name == "runtime.NumGoroutine") = false := by kernel_rfl
theorem nm45 : (Tryz.f45.name == "runtime.NumGoroutine") = false := by kernel_rfl
theorem nm46 : (Tryz.f46.name == "runtime.NumGoroutine") = false := by kernel_rfl
theorem nm47 : (Tryz.f47.name == "runtime.NumGoroutine") = false := by kernel_rfl
theorem nm48 : (Tryz.f48.name == "runtime.NumGoroutine") = false := by kernel_rfl
theorem nm49 : (Tryz.f49.name == "runtime.NumGoroutine") = false := by kernel_rfl
theorem nm5 : (Tryz.f5.name == "runtime.NumGoroutine") = false := by kernel_rfl
theorem nm50 : (Tryz.f50.name == "runtime.NumGoroutine") = false := by kernel_rfl
theorem nm51 : (Tryz.f51.name == "runtime.NumGoroutine") = false := by kernel_rfl
theorem nm52 : (Tryz.f52.name == "runtime.NumGoroutine") = false := by kernel_rfl
theorem nm53 : (Tryz.f53.name == "runtime.NumGoroutine") = false := by kernel_rfl
theorem nm54 : (Tryz.f54.name == "runtime.NumGoroutine") = false := by kernel_rfl
theorem nm55 : (Tryz.f55.name == "runtime.NumGoroutine") = false := by kernel_rfl
theorem nm56 : (Tryz.f56.name == "runtime.NumGoroutine") = false := by kernel_rfl
theorem nm57 : (Tryz.f57.name == "runtime.NumGoroutine") = false := by kernel_rfl
theorem nm58 : (Tryz.f58.name == "runtime.NumGoroutine") = false := by kernel_rfl
theorem nm59 : (Tryz.f59.name == "runtime.NumGoroutine") = false := by kernel_rfl
theorem nm6 : (Tryz.f6.name == "runtime.NumGoroutine") = false := by kernel_rfl
theorem nm60 : (Tryz.f60.name == "runtime.NumGoroutine") = false := by kernel_rfl
theorem nm61 : (Tryz.f61.name == "runtime.NumGoroutine") = false := by kernel_rfl
theorem nm62 : (Tryz.f62.name == "runtime.NumGoroutine") = false := by kernel_rfl
theorem nm63 : (Tryz.f63.name == "runtime.NumGoroutine") = false := by kernel_rfl
theorem nm64 : (Tryz.f64.name == "runtime.NumGoroutine") = false := by kernel_rfl
theorem nm65 : (Tryz.f65.name == "runtime.NumGoroutine") = false := by kernel_rfl
theorem nm66 : (Tryz.f66.name == "runtime.NumGoroutine") = false := by kernel_rfl
theorem nm67 : (Tryz.f67.name == "runtime.NumGoroutine") = false := by kernel_rfl
theorem nm68 : (Tryz.f68.name == "runtime.NumGoroutine") = false := by kernel_rfl
theorem nm69 : (Tryz.f69.name == "runtime.NumGoroutine") = false := by kernel_rfl
theorem nm7 : (Tryz.f7.name == "runtime.NumGoroutine") = false := by kernel_rfl
theorem nm70 : (Tryz.f70.name == "runtime.NumGoroutine") = false := by kernel_rfl
theorem nm71 : (Tryz.f71.name == "runtime.NumGoroutine") = false := by kernel_rfl
theorem nm72 : (Tryz.f72.name == "runtime.NumGoroutine") = false := by kernel_rfl
theorem nm73 : (Tryz.f73.name == "runtime.NumGoroutine") = false := by kernel_rfl
theorem nm74 : (Tryz.f74.name == "runtime.NumGoroutine") = false := by kernel_rfl
theorem nm75 : (Tryz.f75.name == "runtime.NumGoroutine") = false := by kernel_rfl
theorem nm76 : (Tryz.f76.name == "runtime.NumGoroutine") = false := by kernel_rfl
theorem nm77 : (Tryz.f77.name == "runtime.NumGoroutine") = false := by kernel_rfl
theorem nm78 : (Tryz.f78.name == "runtime.NumGoroutine") = false := by kernel_rfl
theorem nm79 : (Tryz.f79.name == "runtime.NumGoroutine") = false := by kernel_rfl
theorem nm8 : (Tryz.f8.name == "runtime.NumGoroutine") = false := by kernel_rfl
theorem nm80 : (Tryz.f80.name == "runtime.NumGoroutine") = false := by kernel_rfl
theorem nm81 : (Tryz.f81.name == "runtime.NumGoroutine") = false := by kernel_rfl
theorem nm82 : (Tryz.f82.name == "runtime.NumGoroutine") = false := by kernel_rfl
theorem nm83 : (Tryz.f83.name == "runtime.NumGoroutine") = false := by kernel_rfl
theorem nm84 : (Tryz.f84.name == "runtime.NumGoroutine") = false := by kernel_rfl
theorem nm85 : (Tryz.f85.name == "runtime.NumGoroutine") = false := by kernel_rfl
theorem nm86 : (Tryz.f86.name == "runtime.NumGoroutine") = false := by kernel_rfl
theorem nm87 : (Tryz.f87.name == "runtime.NumGoroutine") = false := by kernel_rfl
theorem nm88 : (Tryz.f88.name == "runtime.NumGoroutine") = false := by kernel_rfl
theorem nm89 : (Tryz.f89.name == "runtime.NumGoroutine") = false := by kernel_rfl
theorem nm9 : (Tryz.f9.name == "runtime.NumGoroutine") = false := by kernel_rfl
theorem nm90 : (Tryz.f90.name == "runtime.NumGoroutine") = false := by kernel_rfl
theorem nm91 : (Tryz.f91.name == "runtime.NumGoroutine") = false := by kernel_rfl
theorem nm92 : (Tryz.f92.name == "runtime.NumGoroutine") = false := by kernel_rfl
theorem nm93 : (Tryz.f93.name == "runtime.NumGoroutine") = false := by kernel_rfl
theorem nm94 : (Tryz.f94.name == "runtime.NumGoroutine") = false := by kernel_rfl
theorem nm95 : (Tryz.f95.name == "runtime.NumGoroutine") = false := by kernel_rfl
theorem nm96 : (Tryz.f96.name == "runtime.NumGoroutine") = false := by kernel_rfl
theorem pl100 : structPl Tryz.prog 100 = some [(0, 1), (1, 1), (2, 1), (3, 1)] := by kernel_rfl
theorem pl101 : structPl Tryz.prog 101 = some [(0, 1), (1, 1), (2, 1), (3, 1)] := by kernel_rfl
theorem pl103 : structPl Tryz.prog 103 = some [(0, 0)] := by kernel_rfl
theorem pl104 : structPl Tryz.prog 104 = some [(0, 0)] := by kernel_rfl
theorem pl112 : structPl Tryz.prog 112 = some [(0, 1), (1, 1), (2, 1), (3, 1), (4, 1), (5, 1), (6, 1), (7, 1), (8, 1), (9, 1), (10, 1)] := by kernel_rfl
theorem pl113 : structPl Tryz.prog 113 = some [(0, 1), (1, 1), (2, 1), (3, 1), (4, 1), (5, 1), (6, 1), (7, 1), (8, 1), (9, 1), (10, 1)] := by kernel_rfl
theorem pl13 : structPl Tryz.prog 13 = some [(0, 1), (1, 1)] := by kernel_rfl
theorem pl14 : structPl Tryz.prog 14 = some [(0, 1), (1, 1)] := by kernel_rfl
theorem pl18 : structPl Tryz.prog 18 = some [(0, 1)] := by kernel_rfl
theorem pl19 : structPl Tryz.prog 19 = some [(0, 1)] := by kernel_rfl
theorem pl23 : structPl Tryz.prog 23 = some [(0, 1), (1, 1), (2, 1), (3, 1)] := by kernel_rfl
theorem pl24 : structPl Tryz.prog 24 = some [(0, 1), (1, 1), (2, 1), (3, 1)] := by kernel_rfl
theorem pl27 : structPl Tryz.prog 27 = some [(0, 1), (1, 1), (2, 1), (3, 1)] := by kernel_rfl
theorem pl28 : structPl Tryz.prog 28 = some [(0, 1), (1, 1), (2, 1), (3, 1)] := by kernel_rfl
theorem pl64 : structPl Tryz.prog 64 = some [(0, 1), (1, 1), (2, 1), (3, 1)] := by kernel_rfl
theorem pl65 : structPl Tryz.prog 65 = some [(0, 1), (1, 1), (2, 1), (3, 1)] := by kernel_rfl
theorem pl7 : structPl Tryz.prog 7 = some [(0, 1), (1, 1), (2, 1), (3, 1)] := by kernel_rfl
theorem pl8 : structPl Tryz.prog 8 = some [(0, 1), (1, 1), (2, 1), (3, 1)] := by kernel_rfl
theorem sl22 : slElem Tryz.prog 22 = some (24, 4, 56) := by kernel_rfl
theorem sl26 : slElem Tryz.prog 26 = some (28, 4, 56) := by kernel_rfl
theorem sl52 : slElem Tryz.prog 52 = some (9, 1, 16) := by kernel_rfl
theorem sl58 : slElem Tryz.prog 58 = some (5, 1, 1) := by kernel_rfl
theorem sl63 : slElem Tryz.prog 63 = some (65, 4, 56) := by kernel_rfl
theorem sl82 : slElem Tryz.prog 82 = some (3, 1, 8) := by kernel_rfl
theorem z10 : zeroT Tryz.prog 10 = some (.string ⟨#[]⟩) := by kernel_rfl
theorem z100 : zeroT Tryz.prog 100 = some (.agg #[(.pointer none), (.pointer none), (.pointer none), (.string ⟨#[]⟩)]) := by kernel_rfl
theorem z101 : zeroT Tryz.prog 101 = some (.agg #[(.pointer none), (.pointer none), (.pointer none), (.string ⟨#[]⟩)]) := by kernel_rfl
theorem z103 : zeroT Tryz.prog 103 = some (.agg #[]) := by kernel_rfl
theorem z104 : zeroT Tryz.prog 104 = some (.agg #[]) := by kernel_rfl
theorem z106 : zeroT Tryz.prog 106 = some (.int .u8 0) := by kernel_rfl
theorem z107 : zeroT Tryz.prog 107 = some (.int .u8 0) := by kernel_rfl
theorem z109 : zeroT Tryz.prog 109 = some (.pointer none) := by kernel_rfl
theorem z11 : zeroT Tryz.prog 11 = some (.string ⟨#[]⟩) := by kernel_rfl
theorem z110 : zeroT Tryz.prog 110 = some (.int .i32 0) := by kernel_rfl
theorem z111 : zeroT Tryz.prog 111 = some (.int .i32 0) := by kernel_rfl
theorem z12 : zeroT Tryz.prog 12 = some (.int .u64 0) := by kernel_rfl
theorem z13 : zeroT Tryz.prog 13 = some (.agg #[(.string ⟨#[]⟩), (.int .u64 0)]) := by kernel_rfl
theorem z14 : zeroT Tryz.prog 14 = some (.agg #[(.string ⟨#[]⟩), (.int .u64 0)]) := by kernel_rfl
theorem z15 : zeroT Tryz.prog 15 = some (.pointer none) := by kernel_rfl
theorem z16 : zeroT Tryz.prog 16 = some (.pointer none) := by kernel_rfl
theorem z17 : zeroT Tryz.prog 17 = some (.pointer none) := by kernel_rfl
theorem z18 : zeroT Tryz.prog 18 = some (.agg #[(.pointer none)]) := by kernel_rfl
theorem z19 : zeroT Tryz.prog 19 = some (.agg #[(.pointer none)]) := by kernel_rfl
theorem z2 : zeroT Tryz.prog 2 = some (.int .i64 0) := by kernel_rfl
theorem z21 : zeroT Tryz.prog 21 = some (.int .i32 0) := by kernel_rfl
theorem z22 : zeroT Tryz.prog 22 = some (.slice none 0 0) := by kernel_rfl
theorem z23 : zeroT Tryz.prog 23 = some (.agg #[(.int .i64 0), (.int .i64 0), (.string ⟨#[]⟩), (.slice none 0 0)]) := by kernel_rfl
theorem z24 : zeroT Tryz.prog 24 = some (.agg #[(.int .i64 0), (.int .i64 0), (.string ⟨#[]⟩), (.slice none 0 0)]) := by kernel_rfl
theorem z26 : zeroT Tryz.prog 26 = some (.slice none 0 0) := by kernel_rfl
theorem z27 : zeroT Tryz.prog 27 = some (.agg #[(.int .i64 0), (.int .i64 0), (.string ⟨#[]⟩), (.slice none 0 0)]) := by kernel_rfl
theorem z28 : zeroT Tryz.prog 28 = some (.agg #[(.int .i64 0), (.int .i64 0), (.string ⟨#[]⟩), (.slice none 0 0)]) := by kernel_rfl
theorem z3 : zeroT Tryz.prog 3 = some (.int .i64 0) := by kernel_rfl
theorem z4 : zeroT Tryz.prog 4 = some (.bool false) := by kernel_rfl
theorem z46 : zeroT Tryz.prog 46 = some (.pointer none) := by kernel_rfl
theorem z5 : zeroT Tryz.prog 5 = some (.int .u8 0) := by kernel_rfl
theorem z52 : zeroT Tryz.prog 52 = some (.slice none 0 0) := by kernel_rfl
theorem z58 : zeroT Tryz.prog 58 = some (.slice none 0 0) := by kernel_rfl
theorem z6 : zeroT Tryz.prog 6 = some (.int .u8 0) := by kernel_rfl
theorem z63 : zeroT Tryz.prog 63 = some (.slice none 0 0) := by kernel_rfl
theorem z64 : zeroT Tryz.prog 64 = some (.agg #[(.int .i64 0), (.int .i64 0), (.string ⟨#[]⟩), (.slice none 0 0)]) := by kernel_rfl
theorem z65 : zeroT Tryz.prog 65 = some (.agg #[(.int .i64 0), (.int .i64 0), (.string ⟨#[]⟩), (.slice none 0 0)]) := by kernel_rfl
theorem z7 : zeroT Tryz.prog 7 = some (.agg #[(.int .i64 0), (.int .i64 0), (.bool false), (.int .u8 0)]) := by kernel_rfl
theorem z8 : zeroT Tryz.prog 8 = some (.agg #[(.int .i64 0), (.int .i64 0), (.bool false), (.int .u8 0)]) := by kernel_rfl
theorem z82 : zeroT Tryz.prog 82 = some (.slice none 0 0) := by kernel_rfl
theorem z87 : zeroT Tryz.prog 87 = some (.pointer none) := by kernel_rfl
theorem z9 : zeroT Tryz.prog 9 = some (.string ⟨#[]⟩) := by kernel_rfl
theorem z95 : zeroT Tryz.prog 95 = some (.int .u64 0) := by kernel_rfl
theorem z96 : zeroT Tryz.prog 96 = some (.int .u32 0) := by kernel_rfl
end Go.Proofs.YtccdgppplkfjfaaGreat
