/- Facts on the types and functions of this seat, each closed. Printed by this project's own gen.py. -/
import Derived.Test.YtccdgppplkfjfaaDoorAy
import Derived.Test.YtccdgppplkfjfaaDoorProg
import Derived.KernelRfl
namespace Go.Proofs.YtccdgppplkfjfaaDoor
open Go Go.Ax Go.Proofs
theorem fo135_0 : fieldOff Tryd.prog 135 0 = some 0 := by kernel_rfl
theorem fo135_1 : fieldOff Tryd.prog 135 1 = some 1 := by kernel_rfl
theorem fo136_0 : fieldOff Tryd.prog 136 0 = some 0 := by kernel_rfl
theorem fo136_1 : fieldOff Tryd.prog 136 1 = some 1 := by kernel_rfl
theorem fo13_0 : fieldOff Tryd.prog 13 0 = some 0 := by kernel_rfl
theorem fo13_1 : fieldOff Tryd.prog 13 1 = some 1 := by kernel_rfl
theorem fo140_0 : fieldOff Tryd.prog 140 0 = some 0 := by kernel_rfl
theorem fo140_1 : fieldOff Tryd.prog 140 1 = some 1 := by kernel_rfl
theorem fo140_2 : fieldOff Tryd.prog 140 2 = some 2 := by kernel_rfl
theorem fo140_3 : fieldOff Tryd.prog 140 3 = some 3 := by kernel_rfl
theorem fo141_0 : fieldOff Tryd.prog 141 0 = some 0 := by kernel_rfl
theorem fo141_1 : fieldOff Tryd.prog 141 1 = some 1 := by kernel_rfl
theorem fo141_2 : fieldOff Tryd.prog 141 2 = some 2 := by kernel_rfl
theorem fo141_3 : fieldOff Tryd.prog 141 3 = some 3 := by kernel_rfl
theorem fo14_0 : fieldOff Tryd.prog 14 0 = some 0 := by kernel_rfl
theorem fo14_1 : fieldOff Tryd.prog 14 1 = some 1 := by kernel_rfl
theorem fo151_0 : fieldOff Tryd.prog 151 0 = some 0 := by kernel_rfl
theorem fo151_1 : fieldOff Tryd.prog 151 1 = some 1 := by kernel_rfl
theorem fo151_10 : fieldOff Tryd.prog 151 10 = some 10 := by kernel_rfl
theorem fo151_2 : fieldOff Tryd.prog 151 2 = some 2 := by kernel_rfl
theorem fo151_3 : fieldOff Tryd.prog 151 3 = some 3 := by kernel_rfl
theorem fo151_4 : fieldOff Tryd.prog 151 4 = some 4 := by kernel_rfl
theorem fo151_5 : fieldOff Tryd.prog 151 5 = some 5 := by kernel_rfl
theorem fo151_6 : fieldOff Tryd.prog 151 6 = some 6 := by kernel_rfl
theorem fo151_7 : fieldOff Tryd.prog 151 7 = some 7 := by kernel_rfl
theorem fo151_8 : fieldOff Tryd.prog 151 8 = some 8 := by kernel_rfl
theorem fo151_9 : fieldOff Tryd.prog 151 9 = some 9 := by kernel_rfl
theorem fo152_0 : fieldOff Tryd.prog 152 0 = some 0 := by kernel_rfl
theorem fo152_1 : fieldOff Tryd.prog 152 1 = some 1 := by kernel_rfl
theorem fo152_10 : fieldOff Tryd.prog 152 10 = some 10 := by kernel_rfl
theorem fo152_2 : fieldOff Tryd.prog 152 2 = some 2 := by kernel_rfl
theorem fo152_3 : fieldOff Tryd.prog 152 3 = some 3 := by kernel_rfl
theorem fo152_4 : fieldOff Tryd.prog 152 4 = some 4 := by kernel_rfl
theorem fo152_5 : fieldOff Tryd.prog 152 5 = some 5 := by kernel_rfl
theorem fo152_6 : fieldOff Tryd.prog 152 6 = some 6 := by kernel_rfl
theorem fo152_7 : fieldOff Tryd.prog 152 7 = some 7 := by kernel_rfl
theorem fo152_8 : fieldOff Tryd.prog 152 8 = some 8 := by kernel_rfl
theorem fo152_9 : fieldOff Tryd.prog 152 9 = some 9 := by kernel_rfl
theorem fo18_0 : fieldOff Tryd.prog 18 0 = some 0 := by kernel_rfl
theorem fo19_0 : fieldOff Tryd.prog 19 0 = some 0 := by kernel_rfl
theorem fo23_0 : fieldOff Tryd.prog 23 0 = some 0 := by kernel_rfl
theorem fo23_1 : fieldOff Tryd.prog 23 1 = some 1 := by kernel_rfl
theorem fo23_2 : fieldOff Tryd.prog 23 2 = some 2 := by kernel_rfl
theorem fo23_3 : fieldOff Tryd.prog 23 3 = some 3 := by kernel_rfl
theorem fo24_0 : fieldOff Tryd.prog 24 0 = some 0 := by kernel_rfl
theorem fo24_1 : fieldOff Tryd.prog 24 1 = some 1 := by kernel_rfl
theorem fo24_2 : fieldOff Tryd.prog 24 2 = some 2 := by kernel_rfl
theorem fo24_3 : fieldOff Tryd.prog 24 3 = some 3 := by kernel_rfl
theorem fo28_0 : fieldOff Tryd.prog 28 0 = some 0 := by kernel_rfl
theorem fo28_1 : fieldOff Tryd.prog 28 1 = some 1 := by kernel_rfl
theorem fo28_2 : fieldOff Tryd.prog 28 2 = some 2 := by kernel_rfl
theorem fo28_3 : fieldOff Tryd.prog 28 3 = some 3 := by kernel_rfl
theorem fo29_0 : fieldOff Tryd.prog 29 0 = some 0 := by kernel_rfl
theorem fo29_1 : fieldOff Tryd.prog 29 1 = some 1 := by kernel_rfl
theorem fo29_2 : fieldOff Tryd.prog 29 2 = some 2 := by kernel_rfl
theorem fo29_3 : fieldOff Tryd.prog 29 3 = some 3 := by kernel_rfl
theorem fo34_0 : fieldOff Tryd.prog 34 0 = some 0 := by kernel_rfl
theorem fo34_1 : fieldOff Tryd.prog 34 1 = some 1 := by kernel_rfl
theorem fo34_2 : fieldOff Tryd.prog 34 2 = some 2 := by kernel_rfl
theorem fo34_3 : fieldOff Tryd.prog 34 3 = some 3 := by kernel_rfl
theorem fo35_0 : fieldOff Tryd.prog 35 0 = some 0 := by kernel_rfl
theorem fo35_1 : fieldOff Tryd.prog 35 1 = some 1 := by kernel_rfl
theorem fo35_2 : fieldOff Tryd.prog 35 2 = some 2 := by kernel_rfl
theorem fo35_3 : fieldOff Tryd.prog 35 3 = some 3 := by kernel_rfl
theorem fo39_0 : fieldOff Tryd.prog 39 0 = some 0 := by kernel_rfl
theorem fo39_1 : fieldOff Tryd.prog 39 1 = some 1 := by kernel_rfl
theorem fo39_2 : fieldOff Tryd.prog 39 2 = some 2 := by kernel_rfl
theorem fo39_3 : fieldOff Tryd.prog 39 3 = some 3 := by kernel_rfl
theorem fo40_0 : fieldOff Tryd.prog 40 0 = some 0 := by kernel_rfl
theorem fo40_1 : fieldOff Tryd.prog 40 1 = some 1 := by kernel_rfl
theorem fo40_2 : fieldOff Tryd.prog 40 2 = some 2 := by kernel_rfl
theorem fo40_3 : fieldOff Tryd.prog 40 3 = some 3 := by kernel_rfl
theorem fo7_0 : fieldOff Tryd.prog 7 0 = some 0 := by kernel_rfl
theorem fo7_1 : fieldOff Tryd.prog 7 1 = some 1 := by kernel_rfl
theorem fo7_2 : fieldOff Tryd.prog 7 2 = some 2 := by kernel_rfl
theorem fo7_3 : fieldOff Tryd.prog 7 3 = some 3 := by kernel_rfl
theorem fo86_0 : fieldOff Tryd.prog 86 0 = some 0 := by kernel_rfl
theorem fo86_1 : fieldOff Tryd.prog 86 1 = some 1 := by kernel_rfl
theorem fo87_0 : fieldOff Tryd.prog 87 0 = some 0 := by kernel_rfl
theorem fo87_1 : fieldOff Tryd.prog 87 1 = some 1 := by kernel_rfl
theorem fo8_0 : fieldOff Tryd.prog 8 0 = some 0 := by kernel_rfl
theorem fo8_1 : fieldOff Tryd.prog 8 1 = some 1 := by kernel_rfl
theorem fo8_2 : fieldOff Tryd.prog 8 2 = some 2 := by kernel_rfl
theorem fo8_3 : fieldOff Tryd.prog 8 3 = some 3 := by kernel_rfl
theorem kd10 : kindT Tryd.prog 10 = some (false, 1) := by kernel_rfl
theorem kd101 : kindT Tryd.prog 101 = some (false, 1) := by kernel_rfl
theorem kd103 : kindT Tryd.prog 103 = some (false, 1) := by kernel_rfl
theorem kd11 : kindT Tryd.prog 11 = some (false, 1) := by kernel_rfl
theorem kd113 : kindT Tryd.prog 113 = some (false, 1) := by kernel_rfl
theorem kd12 : kindT Tryd.prog 12 = some (false, 1) := by kernel_rfl
theorem kd122 : kindT Tryd.prog 122 = some (false, 1) := by kernel_rfl
theorem kd126 : kindT Tryd.prog 126 = some (false, 1) := by kernel_rfl
theorem kd13 : kindT Tryd.prog 13 = some (true, 2) := by kernel_rfl
theorem kd135 : kindT Tryd.prog 135 = some (true, 2) := by kernel_rfl
theorem kd136 : kindT Tryd.prog 136 = some (true, 2) := by kernel_rfl
theorem kd14 : kindT Tryd.prog 14 = some (true, 2) := by kernel_rfl
theorem kd140 : kindT Tryd.prog 140 = some (true, 4) := by kernel_rfl
theorem kd141 : kindT Tryd.prog 141 = some (true, 4) := by kernel_rfl
theorem kd143 : kindT Tryd.prog 143 = some (true, 0) := by kernel_rfl
theorem kd144 : kindT Tryd.prog 144 = some (true, 0) := by kernel_rfl
theorem kd146 : kindT Tryd.prog 146 = some (false, 1) := by kernel_rfl
theorem kd147 : kindT Tryd.prog 147 = some (false, 1) := by kernel_rfl
theorem kd149 : kindT Tryd.prog 149 = some (false, 1) := by kernel_rfl
theorem kd15 : kindT Tryd.prog 15 = some (false, 1) := by kernel_rfl
theorem kd150 : kindT Tryd.prog 150 = some (false, 1) := by kernel_rfl
theorem kd151 : kindT Tryd.prog 151 = some (true, 11) := by kernel_rfl
theorem kd152 : kindT Tryd.prog 152 = some (true, 11) := by kernel_rfl
theorem kd16 : kindT Tryd.prog 16 = some (false, 1) := by kernel_rfl
theorem kd17 : kindT Tryd.prog 17 = some (false, 1) := by kernel_rfl
theorem kd18 : kindT Tryd.prog 18 = some (true, 1) := by kernel_rfl
theorem kd19 : kindT Tryd.prog 19 = some (true, 1) := by kernel_rfl
theorem kd2 : kindT Tryd.prog 2 = some (false, 1) := by kernel_rfl
theorem kd21 : kindT Tryd.prog 21 = some (false, 1) := by kernel_rfl
theorem kd22 : kindT Tryd.prog 22 = some (false, 1) := by kernel_rfl
theorem kd23 : kindT Tryd.prog 23 = some (true, 4) := by kernel_rfl
theorem kd24 : kindT Tryd.prog 24 = some (true, 4) := by kernel_rfl
theorem kd27 : kindT Tryd.prog 27 = some (false, 1) := by kernel_rfl
theorem kd28 : kindT Tryd.prog 28 = some (true, 4) := by kernel_rfl
theorem kd29 : kindT Tryd.prog 29 = some (true, 4) := by kernel_rfl
theorem kd3 : kindT Tryd.prog 3 = some (false, 1) := by kernel_rfl
theorem kd33 : kindT Tryd.prog 33 = some (false, 1) := by kernel_rfl
theorem kd34 : kindT Tryd.prog 34 = some (true, 4) := by kernel_rfl
theorem kd35 : kindT Tryd.prog 35 = some (true, 4) := by kernel_rfl
theorem kd38 : kindT Tryd.prog 38 = some (false, 1) := by kernel_rfl
theorem kd39 : kindT Tryd.prog 39 = some (true, 4) := by kernel_rfl
theorem kd4 : kindT Tryd.prog 4 = some (false, 1) := by kernel_rfl
theorem kd40 : kindT Tryd.prog 40 = some (true, 4) := by kernel_rfl
theorem kd44 : kindT Tryd.prog 44 = some (false, 1) := by kernel_rfl
theorem kd5 : kindT Tryd.prog 5 = some (false, 1) := by kernel_rfl
theorem kd6 : kindT Tryd.prog 6 = some (false, 1) := by kernel_rfl
theorem kd66 : kindT Tryd.prog 66 = some (false, 1) := by kernel_rfl
theorem kd7 : kindT Tryd.prog 7 = some (true, 4) := by kernel_rfl
theorem kd8 : kindT Tryd.prog 8 = some (true, 4) := by kernel_rfl
theorem kd84 : kindT Tryd.prog 84 = some (false, 1) := by kernel_rfl
theorem kd85 : kindT Tryd.prog 85 = some (false, 1) := by kernel_rfl
theorem kd86 : kindT Tryd.prog 86 = some (true, 2) := by kernel_rfl
theorem kd87 : kindT Tryd.prog 87 = some (true, 2) := by kernel_rfl
theorem kd9 : kindT Tryd.prog 9 = some (false, 1) := by kernel_rfl
theorem nm10 : (Tryd.f10.name == "runtime.NumGoroutine") = false := by kernel_rfl
theorem nm11 : (Tryd.f11.name == "runtime.NumGoroutine") = false := by kernel_rfl
theorem nm110 : (Tryd.f110.name == "runtime.NumGoroutine") = false := by kernel_rfl
theorem nm111 : (Tryd.f111.name == "runtime.NumGoroutine") = false := by kernel_rfl
theorem nm12 : (Tryd.f12.name == "runtime.NumGoroutine") = false := by kernel_rfl
theorem nm120 : (Tryd.f120.name == "runtime.NumGoroutine") = false := by kernel_rfl
theorem nm13 : (Tryd.f13.name == "runtime.NumGoroutine") = false := by kernel_rfl
theorem nm139 : (Tryd.f139.name == "runtime.NumGoroutine") = false := by kernel_rfl
theorem nm14 : (Tryd.f14.name == "runtime.NumGoroutine") = false := by kernel_rfl
theorem nm15 : (Tryd.f15.name == "runtime.NumGoroutine") = false := by kernel_rfl
theorem nm16 : (Tryd.f16.name == "runtime.NumGoroutine") = false := by kernel_rfl
theorem nm17 : (Tryd.f17.name == "runtime.NumGoroutine") = false := by kernel_rfl
theorem nm18 : (Tryd.f18.name == "runtime.NumGoroutine") = false := by kernel_rfl
theorem nm19 : (Tryd.f19.name == "runtime.NumGoroutine") = false := by kernel_rfl
theorem nm20 : (Tryd.f20.name == "runtime.NumGoroutine") = false := by kernel_rfl
theorem nm21 : (Tryd.f21.name == "runtime.NumGoroutine") = false := by kernel_rfl
theorem nm22 : (Tryd.f22.name == "runtime.NumGoroutine") = false := by kernel_rfl
theorem nm23 : (Tryd.f23.name == "runtime.NumGoroutine") = false := by kernel_rfl
theorem nm24 : (Tryd.f24.name == "runtime.NumGoroutine") = false := by kernel_rfl
theorem nm25 : (Tryd.f25.name == "runtime.NumGoroutine") = false := by kernel_rfl
theorem nm26 : (Tryd.f26.name == "runtime.NumGoroutine") = false := by kernel_rfl
theorem nm27 : (Tryd.f27.name == "runtime.NumGoroutine") = false := by kernel_rfl
theorem nm28 : (Tryd.f28.name == "runtime.NumGoroutine") = false := by kernel_rfl
theorem nm29 : (Tryd.f29.name == "runtime.NumGoroutine") = false := by kernel_rfl
theorem nm3 : (Tryd.f3.name == "runtime.NumGoroutine") = false := by kernel_rfl
theorem nm30 : (Tryd.f30.name == "runtime.NumGoroutine") = false := by kernel_rfl
theorem nm31 : (Tryd.f31.name == "runtime.NumGoroutine") = false := by kernel_rfl
theorem nm32 : (Tryd.f32.name == "runtime.NumGoroutine") = false := by kernel_rfl
theorem nm33 : (Tryd.f33.name == "runtime.NumGoroutine") = false := by kernel_rfl
theorem nm34 : (Tryd.f34.name == "runtime.NumGoroutine") = false := by kernel_rfl
theorem nm35 : (Tryd.f35.name == "runtime.NumGoroutine") = false := by kernel_rfl
theorem nm36 : (Tryd.f36.name == "runtime.NumGoroutine") = false := by kernel_rfl
theorem nm37 : (Tryd.f37.name == "runtime.NumGoroutine") = false := by kernel_rfl
theorem nm38 : (Tryd.f38.name == "runtime.NumGoroutine") = false := by kernel_rfl
theorem nm39 : (Tryd.f39.name == "runtime.NumGoroutine") = false := by kernel_rfl
theorem nm4 : (Tryd.f4.name == "runtime.NumGoroutine") = false := by kernel_rfl
theorem nm40 : (Tryd.f40.name == "runtime.NumGoroutine") = false := by kernel_rfl
theorem nm41 : (Tryd.f41.name == "runtime.NumGoroutine") = false := by kernel_rfl
theorem nm42 : (Tryd.f42.name == "runtime.NumGoroutine") = false := by kernel_rfl
theorem nm43 : (Tryd.f43.name == "runtime.NumGoroutine") = false := by kernel_rfl
theorem nm44 : (Tryd.f44.name == "runtime.NumGoroutine") = false := by kernel_rfl
theorem nm45 : (Tryd.f45.name == "runtime.NumGoroutine") = false := by kernel_rfl
theorem nm46 : (Tryd.f46.name == "runtime.NumGoroutine") = false := by kernel_rfl
theorem nm47 : (Tryd.f47.name == "runtime.NumGoroutine") = false := by kernel_rfl
theorem nm48 : (Tryd.f48.name == "runtime.NumGoroutine") = false := by kernel_rfl
theorem nm49 : (Tryd.f49.name == "runtime.NumGoroutine") = false := by kernel_rfl
theorem nm5 : (Tryd.f5.name == "runtime.NumGoroutine") = false := by kernel_rfl
theorem nm50 : (Tryd.f50.name == "runtime.NumGoroutine") = false := by kernel_rfl
theorem nm51 : (Tryd.f51.name == "runtime.NumGoroutine") = false := by kernel_rfl
theorem nm52 : (Tryd.f52.name == "runtime.NumGoroutine") = false := by kernel_rfl
theorem nm53 : (Tryd.f53.name == "runtime.NumGoroutine") = false := by kernel_rfl
theorem nm54 : (Tryd.f54.name == "runtime.NumGoroutine") = false := by kernel_rfl
theorem nm55 : (Tryd.f55.name == "runtime.NumGoroutine") = false := by kernel_rfl
theorem nm56 : (Tryd.f56.name == "runtime.NumGoroutine") = false := by kernel_rfl
theorem nm57 : (Tryd.f57.name == "runtime.NumGoroutine") = false := by kernel_rfl
theorem nm58 : (Tryd.f58.name == "runtime.NumGoroutine") = false := by kernel_rfl
theorem nm59 : (Tryd.f59.name == "runtime.NumGoroutine") = false := by kernel_rfl
theorem nm6 : (Tryd.f6.name == "runtime.NumGoroutine") = false := by kernel_rfl
theorem nm60 : (Tryd.f60.name == "runtime.NumGoroutine") = false := by kernel_rfl
theorem nm61 : (Tryd.f61.name == "runtime.NumGoroutine") = false := by kernel_rfl
theorem nm62 : (Tryd.f62.name == "runtime.NumGoroutine") = false := by kernel_rfl
theorem nm63 : (Tryd.f63.name == "runtime.NumGoroutine") = false := by kernel_rfl
theorem nm64 : (Tryd.f64.name == "runtime.NumGoroutine") = false := by kernel_rfl
theorem nm65 : (Tryd.f65.name == "runtime.NumGoroutine") = false := by kernel_rfl
theorem nm66 : (Tryd.f66.name == "runtime.NumGoroutine") = false := by kernel_rfl
theorem nm67 : (Tryd.f67.name == "runtime.NumGoroutine") = false := by kernel_rfl
theorem nm68 : (Tryd.f68.name == "runtime.NumGoroutine") = false := by kernel_rfl
theorem nm7 : (Tryd.f7.name == "runtime.NumGoroutine") = false := by kernel_rfl
theorem nm70 : (Tryd.f70.name == "runtime.NumGoroutine") = false := by kernel_rfl
theorem nm71 : (Tryd.f71.name == "runtime.NumGoroutine") = false := by kernel_rfl
theorem nm72 : (Tryd.f72.name == "runtime.NumGoroutine") = false := by kernel_rfl
theorem nm73 : (Tryd.f73.name == "runtime.NumGoroutine") = false := by kernel_rfl
theorem nm77 : (Tryd.f77.name == "runtime.NumGoroutine") = false := by kernel_rfl
theorem nm78 : (Tryd.f78.name == "runtime.NumGoroutine") = false := by kernel_rfl
theorem nm79 : (Tryd.f79.name == "runtime.NumGoroutine") = false := by kernel_rfl
theorem nm8 : (Tryd.f8.name == "runtime.NumGoroutine") = false := by kernel_rfl
theorem nm80 : (Tryd.f80.name == "runtime.NumGoroutine") = false := by kernel_rfl
theorem nm81 : (Tryd.f81.name == "runtime.NumGoroutine") = false := by kernel_rfl
theorem nm82 : (Tryd.f82.name == "runtime.NumGoroutine") = false := by kernel_rfl
theorem nm83 : (Tryd.f83.name == "runtime.NumGoroutine") = false := by kernel_rfl
theorem nm84 : (Tryd.f84.name == "runtime.NumGoroutine") = false := by kernel_rfl
theorem nm85 : (Tryd.f85.name == "runtime.NumGoroutine") = false := by kernel_rfl
theorem nm86 : (Tryd.f86.name == "runtime.NumGoroutine") = false := by kernel_rfl
theorem nm87 : (Tryd.f87.name == "runtime.NumGoroutine") = false := by kernel_rfl
theorem nm9 : (Tryd.f9.name == "runtime.NumGoroutine") = false := by kernel_rfl
theorem nm94 : (Tryd.f94.name == "runtime.NumGoroutine") = false := by kernel_rfl
theorem nm95 : (Tryd.f95.name == "runtime.NumGoroutine") = false := by kernel_rfl
theorem nm96 : (Tryd.f96.name == "runtime.NumGoroutine") = false := by kernel_rfl
theorem nm97 : (Tryd.f97.name == "runtime.NumGoroutine") = false := by kernel_rfl
theorem pl13 : structPl Tryd.prog 13 = some [(0, 1), (1, 1)] := by kernel_rfl
theorem pl135 : structPl Tryd.prog 135 = some [(0, 1), (1, 1)] := by kernel_rfl
theorem pl136 : structPl Tryd.prog 136 = some [(0, 1), (1, 1)] := by kernel_rfl
theorem pl14 : structPl Tryd.prog 14 = some [(0, 1), (1, 1)] := by kernel_rfl
theorem pl140 : structPl Tryd.prog 140 = some [(0, 1), (1, 1), (2, 1), (3, 1)] := by kernel_rfl
theorem pl141 : structPl Tryd.prog 141 = some [(0, 1), (1, 1), (2, 1), (3, 1)] := by kernel_rfl
theorem pl143 : structPl Tryd.prog 143 = some [(0, 0)] := by kernel_rfl
theorem pl144 : structPl Tryd.prog 144 = some [(0, 0)] := by kernel_rfl
theorem pl151 : structPl Tryd.prog 151 = some [(0, 1), (1, 1), (2, 1), (3, 1), (4, 1), (5, 1), (6, 1), (7, 1), (8, 1), (9, 1), (10, 1)] := by kernel_rfl
theorem pl152 : structPl Tryd.prog 152 = some [(0, 1), (1, 1), (2, 1), (3, 1), (4, 1), (5, 1), (6, 1), (7, 1), (8, 1), (9, 1), (10, 1)] := by kernel_rfl
theorem pl18 : structPl Tryd.prog 18 = some [(0, 1)] := by kernel_rfl
theorem pl19 : structPl Tryd.prog 19 = some [(0, 1)] := by kernel_rfl
theorem pl23 : structPl Tryd.prog 23 = some [(0, 1), (1, 1), (2, 1), (3, 1)] := by kernel_rfl
theorem pl24 : structPl Tryd.prog 24 = some [(0, 1), (1, 1), (2, 1), (3, 1)] := by kernel_rfl
theorem pl28 : structPl Tryd.prog 28 = some [(0, 1), (1, 1), (2, 1), (3, 1)] := by kernel_rfl
theorem pl29 : structPl Tryd.prog 29 = some [(0, 1), (1, 1), (2, 1), (3, 1)] := by kernel_rfl
theorem pl34 : structPl Tryd.prog 34 = some [(0, 1), (1, 1), (2, 1), (3, 1)] := by kernel_rfl
theorem pl35 : structPl Tryd.prog 35 = some [(0, 1), (1, 1), (2, 1), (3, 1)] := by kernel_rfl
theorem pl39 : structPl Tryd.prog 39 = some [(0, 1), (1, 1), (2, 1), (3, 1)] := by kernel_rfl
theorem pl40 : structPl Tryd.prog 40 = some [(0, 1), (1, 1), (2, 1), (3, 1)] := by kernel_rfl
theorem pl7 : structPl Tryd.prog 7 = some [(0, 1), (1, 1), (2, 1), (3, 1)] := by kernel_rfl
theorem pl8 : structPl Tryd.prog 8 = some [(0, 1), (1, 1), (2, 1), (3, 1)] := by kernel_rfl
theorem pl86 : structPl Tryd.prog 86 = some [(0, 1), (1, 1)] := by kernel_rfl
theorem pl87 : structPl Tryd.prog 87 = some [(0, 1), (1, 1)] := by kernel_rfl
theorem sl22 : slElem Tryd.prog 22 = some (24, 4, 56) := by kernel_rfl
theorem sl27 : slElem Tryd.prog 27 = some (29, 4, 56) := by kernel_rfl
theorem sl33 : slElem Tryd.prog 33 = some (35, 4, 56) := by kernel_rfl
theorem sl38 : slElem Tryd.prog 38 = some (40, 4, 56) := by kernel_rfl
theorem sl44 : slElem Tryd.prog 44 = some (9, 1, 16) := by kernel_rfl
theorem sl85 : slElem Tryd.prog 85 = some (5, 1, 1) := by kernel_rfl
theorem z10 : zeroT Tryd.prog 10 = some (.string ⟨#[]⟩) := by kernel_rfl
theorem z101 : zeroT Tryd.prog 101 = some (.pointer none) := by kernel_rfl
theorem z103 : zeroT Tryd.prog 103 = some (.pointer none) := by kernel_rfl
theorem z11 : zeroT Tryd.prog 11 = some (.string ⟨#[]⟩) := by kernel_rfl
theorem z113 : zeroT Tryd.prog 113 = some (.int .u64 0) := by kernel_rfl
theorem z12 : zeroT Tryd.prog 12 = some (.int .u64 0) := by kernel_rfl
theorem z122 : zeroT Tryd.prog 122 = some (.int .u64 0) := by kernel_rfl
theorem z126 : zeroT Tryd.prog 126 = some (.int .u32 0) := by kernel_rfl
theorem z13 : zeroT Tryd.prog 13 = some (.agg #[(.string ⟨#[]⟩), (.int .u64 0)]) := by kernel_rfl
theorem z135 : zeroT Tryd.prog 135 = some (.agg #[(.int .u8 0), (.int .u8 0)]) := by kernel_rfl
theorem z136 : zeroT Tryd.prog 136 = some (.agg #[(.int .u8 0), (.int .u8 0)]) := by kernel_rfl
theorem z14 : zeroT Tryd.prog 14 = some (.agg #[(.string ⟨#[]⟩), (.int .u64 0)]) := by kernel_rfl
theorem z140 : zeroT Tryd.prog 140 = some (.agg #[(.pointer none), (.pointer none), (.pointer none), (.string ⟨#[]⟩)]) := by kernel_rfl
theorem z141 : zeroT Tryd.prog 141 = some (.agg #[(.pointer none), (.pointer none), (.pointer none), (.string ⟨#[]⟩)]) := by kernel_rfl
theorem z143 : zeroT Tryd.prog 143 = some (.agg #[]) := by kernel_rfl
theorem z144 : zeroT Tryd.prog 144 = some (.agg #[]) := by kernel_rfl
theorem z146 : zeroT Tryd.prog 146 = some (.int .u8 0) := by kernel_rfl
theorem z147 : zeroT Tryd.prog 147 = some (.int .u8 0) := by kernel_rfl
theorem z149 : zeroT Tryd.prog 149 = some (.int .i32 0) := by kernel_rfl
theorem z15 : zeroT Tryd.prog 15 = some (.pointer none) := by kernel_rfl
theorem z150 : zeroT Tryd.prog 150 = some (.int .i32 0) := by kernel_rfl
theorem z16 : zeroT Tryd.prog 16 = some (.pointer none) := by kernel_rfl
theorem z17 : zeroT Tryd.prog 17 = some (.pointer none) := by kernel_rfl
theorem z18 : zeroT Tryd.prog 18 = some (.agg #[(.pointer none)]) := by kernel_rfl
theorem z19 : zeroT Tryd.prog 19 = some (.agg #[(.pointer none)]) := by kernel_rfl
theorem z2 : zeroT Tryd.prog 2 = some (.int .i64 0) := by kernel_rfl
theorem z21 : zeroT Tryd.prog 21 = some (.int .i32 0) := by kernel_rfl
theorem z22 : zeroT Tryd.prog 22 = some (.slice none 0 0) := by kernel_rfl
theorem z23 : zeroT Tryd.prog 23 = some (.agg #[(.int .i64 0), (.int .i64 0), (.string ⟨#[]⟩), (.slice none 0 0)]) := by kernel_rfl
theorem z24 : zeroT Tryd.prog 24 = some (.agg #[(.int .i64 0), (.int .i64 0), (.string ⟨#[]⟩), (.slice none 0 0)]) := by kernel_rfl
theorem z27 : zeroT Tryd.prog 27 = some (.slice none 0 0) := by kernel_rfl
theorem z28 : zeroT Tryd.prog 28 = some (.agg #[(.int .i64 0), (.int .i64 0), (.string ⟨#[]⟩), (.slice none 0 0)]) := by kernel_rfl
theorem z29 : zeroT Tryd.prog 29 = some (.agg #[(.int .i64 0), (.int .i64 0), (.string ⟨#[]⟩), (.slice none 0 0)]) := by kernel_rfl
theorem z3 : zeroT Tryd.prog 3 = some (.int .i64 0) := by kernel_rfl
theorem z33 : zeroT Tryd.prog 33 = some (.slice none 0 0) := by kernel_rfl
theorem z34 : zeroT Tryd.prog 34 = some (.agg #[(.int .i64 0), (.int .i64 0), (.string ⟨#[]⟩), (.slice none 0 0)]) := by kernel_rfl
theorem z35 : zeroT Tryd.prog 35 = some (.agg #[(.int .i64 0), (.int .i64 0), (.string ⟨#[]⟩), (.slice none 0 0)]) := by kernel_rfl
theorem z38 : zeroT Tryd.prog 38 = some (.slice none 0 0) := by kernel_rfl
theorem z39 : zeroT Tryd.prog 39 = some (.agg #[(.int .i64 0), (.int .i64 0), (.string ⟨#[]⟩), (.slice none 0 0)]) := by kernel_rfl
theorem z4 : zeroT Tryd.prog 4 = some (.bool false) := by kernel_rfl
theorem z40 : zeroT Tryd.prog 40 = some (.agg #[(.int .i64 0), (.int .i64 0), (.string ⟨#[]⟩), (.slice none 0 0)]) := by kernel_rfl
theorem z44 : zeroT Tryd.prog 44 = some (.slice none 0 0) := by kernel_rfl
theorem z5 : zeroT Tryd.prog 5 = some (.int .u8 0) := by kernel_rfl
theorem z6 : zeroT Tryd.prog 6 = some (.int .u8 0) := by kernel_rfl
theorem z66 : zeroT Tryd.prog 66 = some (.pointer none) := by kernel_rfl
theorem z7 : zeroT Tryd.prog 7 = some (.agg #[(.int .i64 0), (.int .i64 0), (.bool false), (.int .u8 0)]) := by kernel_rfl
theorem z8 : zeroT Tryd.prog 8 = some (.agg #[(.int .i64 0), (.int .i64 0), (.bool false), (.int .u8 0)]) := by kernel_rfl
theorem z84 : zeroT Tryd.prog 84 = some (.pointer none) := by kernel_rfl
theorem z85 : zeroT Tryd.prog 85 = some (.slice none 0 0) := by kernel_rfl
theorem z86 : zeroT Tryd.prog 86 = some (.agg #[(.pointer none), (.slice none 0 0)]) := by kernel_rfl
theorem z87 : zeroT Tryd.prog 87 = some (.agg #[(.pointer none), (.slice none 0 0)]) := by kernel_rfl
theorem z9 : zeroT Tryd.prog 9 = some (.string ⟨#[]⟩) := by kernel_rfl
end Go.Proofs.YtccdgppplkfjfaaDoor
