/- Facts on the types and functions of this seat, each closed. Printed by this project's own gen.py. -/
import Derived.Test.YtccdgppplkfjfaaAy
import Derived.Test.YtccdgppplkfjfaaProg
import Derived.KernelRfl
namespace Go.Proofs.Ytccdgppplkfjfaa
open Go Go.Ax Go.Proofs
theorem fo103_0 : fieldOff Try.prog 103 0 = some 0 := by kernel_rfl
theorem fo103_1 : fieldOff Try.prog 103 1 = some 1 := by kernel_rfl
theorem fo103_2 : fieldOff Try.prog 103 2 = some 2 := by kernel_rfl
theorem fo103_3 : fieldOff Try.prog 103 3 = some 3 := by kernel_rfl
theorem fo104_0 : fieldOff Try.prog 104 0 = some 0 := by kernel_rfl
theorem fo104_1 : fieldOff Try.prog 104 1 = some 1 := by kernel_rfl
theorem fo104_2 : fieldOff Try.prog 104 2 = some 2 := by kernel_rfl
theorem fo104_3 : fieldOff Try.prog 104 3 = some 3 := by kernel_rfl
theorem fo127_0 : fieldOff Try.prog 127 0 = some 0 := by kernel_rfl
theorem fo127_1 : fieldOff Try.prog 127 1 = some 1 := by kernel_rfl
theorem fo127_2 : fieldOff Try.prog 127 2 = some 2 := by kernel_rfl
theorem fo127_3 : fieldOff Try.prog 127 3 = some 3 := by kernel_rfl
theorem fo128_0 : fieldOff Try.prog 128 0 = some 0 := by kernel_rfl
theorem fo128_1 : fieldOff Try.prog 128 1 = some 1 := by kernel_rfl
theorem fo128_2 : fieldOff Try.prog 128 2 = some 2 := by kernel_rfl
theorem fo128_3 : fieldOff Try.prog 128 3 = some 3 := by kernel_rfl
theorem fo138_0 : fieldOff Try.prog 138 0 = some 0 := by kernel_rfl
theorem fo138_1 : fieldOff Try.prog 138 1 = some 1 := by kernel_rfl
theorem fo138_10 : fieldOff Try.prog 138 10 = some 10 := by kernel_rfl
theorem fo138_2 : fieldOff Try.prog 138 2 = some 2 := by kernel_rfl
theorem fo138_3 : fieldOff Try.prog 138 3 = some 3 := by kernel_rfl
theorem fo138_4 : fieldOff Try.prog 138 4 = some 4 := by kernel_rfl
theorem fo138_5 : fieldOff Try.prog 138 5 = some 5 := by kernel_rfl
theorem fo138_6 : fieldOff Try.prog 138 6 = some 6 := by kernel_rfl
theorem fo138_7 : fieldOff Try.prog 138 7 = some 7 := by kernel_rfl
theorem fo138_8 : fieldOff Try.prog 138 8 = some 8 := by kernel_rfl
theorem fo138_9 : fieldOff Try.prog 138 9 = some 9 := by kernel_rfl
theorem fo139_0 : fieldOff Try.prog 139 0 = some 0 := by kernel_rfl
theorem fo139_1 : fieldOff Try.prog 139 1 = some 1 := by kernel_rfl
theorem fo139_10 : fieldOff Try.prog 139 10 = some 10 := by kernel_rfl
theorem fo139_2 : fieldOff Try.prog 139 2 = some 2 := by kernel_rfl
theorem fo139_3 : fieldOff Try.prog 139 3 = some 3 := by kernel_rfl
theorem fo139_4 : fieldOff Try.prog 139 4 = some 4 := by kernel_rfl
theorem fo139_5 : fieldOff Try.prog 139 5 = some 5 := by kernel_rfl
theorem fo139_6 : fieldOff Try.prog 139 6 = some 6 := by kernel_rfl
theorem fo139_7 : fieldOff Try.prog 139 7 = some 7 := by kernel_rfl
theorem fo139_8 : fieldOff Try.prog 139 8 = some 8 := by kernel_rfl
theorem fo139_9 : fieldOff Try.prog 139 9 = some 9 := by kernel_rfl
theorem fo13_0 : fieldOff Try.prog 13 0 = some 0 := by kernel_rfl
theorem fo13_1 : fieldOff Try.prog 13 1 = some 1 := by kernel_rfl
theorem fo14_0 : fieldOff Try.prog 14 0 = some 0 := by kernel_rfl
theorem fo14_1 : fieldOff Try.prog 14 1 = some 1 := by kernel_rfl
theorem fo18_0 : fieldOff Try.prog 18 0 = some 0 := by kernel_rfl
theorem fo19_0 : fieldOff Try.prog 19 0 = some 0 := by kernel_rfl
theorem fo23_0 : fieldOff Try.prog 23 0 = some 0 := by kernel_rfl
theorem fo23_1 : fieldOff Try.prog 23 1 = some 1 := by kernel_rfl
theorem fo23_2 : fieldOff Try.prog 23 2 = some 2 := by kernel_rfl
theorem fo23_3 : fieldOff Try.prog 23 3 = some 3 := by kernel_rfl
theorem fo24_0 : fieldOff Try.prog 24 0 = some 0 := by kernel_rfl
theorem fo24_1 : fieldOff Try.prog 24 1 = some 1 := by kernel_rfl
theorem fo24_2 : fieldOff Try.prog 24 2 = some 2 := by kernel_rfl
theorem fo24_3 : fieldOff Try.prog 24 3 = some 3 := by kernel_rfl
theorem fo29_0 : fieldOff Try.prog 29 0 = some 0 := by kernel_rfl
theorem fo29_1 : fieldOff Try.prog 29 1 = some 1 := by kernel_rfl
theorem fo29_2 : fieldOff Try.prog 29 2 = some 2 := by kernel_rfl
theorem fo29_3 : fieldOff Try.prog 29 3 = some 3 := by kernel_rfl
theorem fo30_0 : fieldOff Try.prog 30 0 = some 0 := by kernel_rfl
theorem fo30_1 : fieldOff Try.prog 30 1 = some 1 := by kernel_rfl
theorem fo30_2 : fieldOff Try.prog 30 2 = some 2 := by kernel_rfl
theorem fo30_3 : fieldOff Try.prog 30 3 = some 3 := by kernel_rfl
theorem fo7_0 : fieldOff Try.prog 7 0 = some 0 := by kernel_rfl
theorem fo7_1 : fieldOff Try.prog 7 1 = some 1 := by kernel_rfl
theorem fo7_2 : fieldOff Try.prog 7 2 = some 2 := by kernel_rfl
theorem fo7_3 : fieldOff Try.prog 7 3 = some 3 := by kernel_rfl
theorem fo8_0 : fieldOff Try.prog 8 0 = some 0 := by kernel_rfl
theorem fo8_1 : fieldOff Try.prog 8 1 = some 1 := by kernel_rfl
theorem fo8_2 : fieldOff Try.prog 8 2 = some 2 := by kernel_rfl
theorem fo8_3 : fieldOff Try.prog 8 3 = some 3 := by kernel_rfl
theorem kd10 : kindT Try.prog 10 = some (false, 1) := by kernel_rfl
theorem kd102 : kindT Try.prog 102 = some (false, 1) := by kernel_rfl
theorem kd103 : kindT Try.prog 103 = some (true, 4) := by kernel_rfl
theorem kd104 : kindT Try.prog 104 = some (true, 4) := by kernel_rfl
theorem kd11 : kindT Try.prog 11 = some (false, 1) := by kernel_rfl
theorem kd12 : kindT Try.prog 12 = some (false, 1) := by kernel_rfl
theorem kd122 : kindT Try.prog 122 = some (false, 1) := by kernel_rfl
theorem kd123 : kindT Try.prog 123 = some (false, 1) := by kernel_rfl
theorem kd127 : kindT Try.prog 127 = some (true, 4) := by kernel_rfl
theorem kd128 : kindT Try.prog 128 = some (true, 4) := by kernel_rfl
theorem kd13 : kindT Try.prog 13 = some (true, 2) := by kernel_rfl
theorem kd130 : kindT Try.prog 130 = some (true, 0) := by kernel_rfl
theorem kd131 : kindT Try.prog 131 = some (true, 0) := by kernel_rfl
theorem kd132 : kindT Try.prog 132 = some (false, 1) := by kernel_rfl
theorem kd133 : kindT Try.prog 133 = some (false, 1) := by kernel_rfl
theorem kd135 : kindT Try.prog 135 = some (false, 1) := by kernel_rfl
theorem kd136 : kindT Try.prog 136 = some (false, 1) := by kernel_rfl
theorem kd137 : kindT Try.prog 137 = some (false, 1) := by kernel_rfl
theorem kd138 : kindT Try.prog 138 = some (true, 11) := by kernel_rfl
theorem kd139 : kindT Try.prog 139 = some (true, 11) := by kernel_rfl
theorem kd14 : kindT Try.prog 14 = some (true, 2) := by kernel_rfl
theorem kd15 : kindT Try.prog 15 = some (false, 1) := by kernel_rfl
theorem kd16 : kindT Try.prog 16 = some (false, 1) := by kernel_rfl
theorem kd17 : kindT Try.prog 17 = some (false, 1) := by kernel_rfl
theorem kd18 : kindT Try.prog 18 = some (true, 1) := by kernel_rfl
theorem kd19 : kindT Try.prog 19 = some (true, 1) := by kernel_rfl
theorem kd2 : kindT Try.prog 2 = some (false, 1) := by kernel_rfl
theorem kd21 : kindT Try.prog 21 = some (false, 1) := by kernel_rfl
theorem kd22 : kindT Try.prog 22 = some (false, 1) := by kernel_rfl
theorem kd23 : kindT Try.prog 23 = some (true, 4) := by kernel_rfl
theorem kd24 : kindT Try.prog 24 = some (true, 4) := by kernel_rfl
theorem kd26 : kindT Try.prog 26 = some (false, 1) := by kernel_rfl
theorem kd28 : kindT Try.prog 28 = some (false, 1) := by kernel_rfl
theorem kd29 : kindT Try.prog 29 = some (true, 4) := by kernel_rfl
theorem kd3 : kindT Try.prog 3 = some (false, 1) := by kernel_rfl
theorem kd30 : kindT Try.prog 30 = some (true, 4) := by kernel_rfl
theorem kd37 : kindT Try.prog 37 = some (false, 1) := by kernel_rfl
theorem kd4 : kindT Try.prog 4 = some (false, 1) := by kernel_rfl
theorem kd41 : kindT Try.prog 41 = some (false, 1) := by kernel_rfl
theorem kd5 : kindT Try.prog 5 = some (false, 1) := by kernel_rfl
theorem kd6 : kindT Try.prog 6 = some (false, 1) := by kernel_rfl
theorem kd7 : kindT Try.prog 7 = some (true, 4) := by kernel_rfl
theorem kd77 : kindT Try.prog 77 = some (false, 1) := by kernel_rfl
theorem kd8 : kindT Try.prog 8 = some (true, 4) := by kernel_rfl
theorem kd81 : kindT Try.prog 81 = some (false, 1) := by kernel_rfl
theorem kd82 : kindT Try.prog 82 = some (false, 1) := by kernel_rfl
theorem kd9 : kindT Try.prog 9 = some (false, 1) := by kernel_rfl
theorem nm10 : (Try.f10.name == "runtime.NumGoroutine") = false := by kernel_rfl
theorem nm100 : (Try.f100.name == "runtime.NumGoroutine") = false := by kernel_rfl
theorem nm101 : (Try.f101.name == "runtime.NumGoroutine") = false := by kernel_rfl
theorem nm102 : (Try.f102.name == "runtime.NumGoroutine") = false := by kernel_rfl
theorem nm103 : (Try.f103.name == "runtime.NumGoroutine") = false := by kernel_rfl
theorem nm104 : (Try.f104.name == "runtime.NumGoroutine") = false := by kernel_rfl
theorem nm105 : (Try.f105.name == "runtime.NumGoroutine") = false := by kernel_rfl
theorem nm106 : (Try.f106.name == "runtime.NumGoroutine") = false := by kernel_rfl
theorem nm107 : (Try.f107.name == "runtime.NumGoroutine") = false := by kernel_rfl
theorem nm108 : (Try.f108.name == "runtime.NumGoroutine") = false := by kernel_rfl
theorem nm109 : (Try.f109.name == "runtime.NumGoroutine") = false := by kernel_rfl
theorem nm11 : (Try.f11.name == "runtime.NumGoroutine") = false := by kernel_rfl
theorem nm110 : (Try.f110.name == "runtime.NumGoroutine") = false := by kernel_rfl
theorem nm111 : (Try.f111.name == "runtime.NumGoroutine") = false := by kernel_rfl
theorem nm112 : (Try.f112.name == "runtime.NumGoroutine") = false := by kernel_rfl
theorem nm113 : (Try.f113.name == "runtime.NumGoroutine") = false := by kernel_rfl
theorem nm114 : (Try.f114.name == "runtime.NumGoroutine") = false := by kernel_rfl
theorem nm115 : (Try.f115.name == "runtime.NumGoroutine") = false := by kernel_rfl
theorem nm116 : (Try.f116.name == "runtime.NumGoroutine") = false := by kernel_rfl
theorem nm117 : (Try.f117.name == "runtime.NumGoroutine") = false := by kernel_rfl
theorem nm118 : (Try.f118.name == "runtime.NumGoroutine") = false := by kernel_rfl
theorem nm119 : (Try.f119.name == "runtime.NumGoroutine") = false := by kernel_rfl
theorem nm12 : (Try.f12.name == "runtime.NumGoroutine") = false := by kernel_rfl
theorem nm120 : (Try.f120.name == "runtime.NumGoroutine") = false := by kernel_rfl
theorem nm121 : (Try.f121.name == "runtime.NumGoroutine") = false := by kernel_rfl
theorem nm122 : (Try.f122.name == "runtime.NumGoroutine") = false := by kernel_rfl
theorem nm123 : (Try.f123.name == "runtime.NumGoroutine") = false := by kernel_rfl
theorem nm124 : (Try.f124.name == "runtime.NumGoroutine") = false := by kernel_rfl
theorem nm125 : (Try.f125.name == "runtime.NumGoroutine") = false := by kernel_rfl
theorem nm126 : (Try.f126.name == "runtime.NumGoroutine") = false := by kernel_rfl
theorem nm127 : (Try.f127.name == "runtime.NumGoroutine") = false := by kernel_rfl
theorem nm128 : (Try.f128.name == "runtime.NumGoroutine") = false := by kernel_rfl
theorem nm129 : (Try.f129.name == "runtime.NumGoroutine") = false := by kernel_rfl
theorem nm13 : (Try.f13.name == "runtime.NumGoroutine") = false := by kernel_rfl
theorem nm130 : (Try.f130.name == "runtime.NumGoroutine") = false := by kernel_rfl
theorem nm131 : (Try.f131.name == "runtime.NumGoroutine") = false := by kernel_rfl
theorem nm132 : (Try.f132.name == "runtime.NumGoroutine") = false := by kernel_rfl
theorem nm133 : (Try.f133.name == "runtime.NumGoroutine") = false := by kernel_rfl
theorem nm134 : (Try.f134.name == "runtime.NumGoroutine") = false := by kernel_rfl
theorem nm135 : (Try.f135.name == "runtime.NumGoroutine") = false := by kernel_rfl
theorem nm136 : (Try.f136.name == "runtime.NumGoroutine") = false := by kernel_rfl
theorem nm137 : (Try.f137.name == "runtime.NumGoroutine") = false := by kernel_rfl
theorem nm138 : (Try.f138.name == "runtime.NumGoroutine") = false := by kernel_rfl
theorem nm139 : (Try.f139.name == "runtime.NumGoroutine") = false := by kernel_rfl
theorem nm14 : (Try.f14.name == "runtime.NumGoroutine") = false := by kernel_rfl
theorem nm140 : (Try.f140.name == "runtime.NumGoroutine") = false := by kernel_rfl
theorem nm141 : (Try.f141.name == "runtime.NumGoroutine") = false := by kernel_rfl
theorem nm142 : (Try.f142.name == "runtime.NumGoroutine") = false := by kernel_rfl
theorem nm15 : (Try.f15.name == "runtime.NumGoroutine") = false := by kernel_rfl
theorem nm16 : (Try.f16.name == "runtime.NumGoroutine") = false := by kernel_rfl
theorem nm165 : (Try.f165.name == "runtime.NumGoroutine") = false := by kernel_rfl
theorem nm17 : (Try.f17.name == "runtime.NumGoroutine") = false := by kernel_rfl
theorem nm18 : (Try.f18.name == "runtime.NumGoroutine") = false := by kernel_rfl
theorem nm19 : (Try.f19.name == "runtime.NumGoroutine") = false := by kernel_rfl
theorem nm20 : (Try.f20.name == "runtime.NumGoroutine") = false := by kernel_rfl
theorem nm21 : (Try.f21.name == "runtime.NumGoroutine") = false := by kernel_rfl
theorem nm22 : (Try.f22.name == "runtime.NumGoroutine") = false := by kernel_rfl
theorem nm23 : (Try.f23.name == "runtime.NumGoroutine") = false := by kernel_rfl
theorem nm24 : (Try.f24.name == "runtime.NumGoroutine") = false := by kernel_rfl
theorem nm25 : (Try.f25.name == "runtime.NumGoroutine") = false := by kernel_rfl
theorem nm26 : (Try.f26.name == "runtime.NumGoroutine") = false := by kernel_rfl
theorem nm27 : (Try.f27.name == "runtime.NumGoroutine") = false := by kernel_rfl
theorem nm28 : (Try.f28.name == "runtime.NumGoroutine") = false := by kernel_rfl
theorem nm29 : (Try.f29.name == "runtime.NumGoroutine") = false := by kernel_rfl
theorem nm3 : (Try.f3.name == "runtime.NumGoroutine") = false := by kernel_rfl
theorem nm30 : (Try.f30.name == "runtime.NumGoroutine") = false := by kernel_rfl
theorem nm31 : (Try.f31.name == "runtime.NumGoroutine") = false := by kernel_rfl
theorem nm32 : (Try.f32.name == "runtime.NumGoroutine") = false := by kernel_rfl
theorem nm33 : (Try.f33.name == "runtime.NumGoroutine") = false := by kernel_rfl
theorem nm34 : (Try.f34.name == "runtime.NumGoroutine") = false := by kernel_rfl
theorem nm35 : (Try.f35.name == "runtime.NumGoroutine") = false := by kernel_rfl
theorem nm36 : (Try.f36.name == "runtime.NumGoroutine") = false := by kernel_rfl
theorem nm37 : (Try.f37.name == "runtime.NumGoroutine") = false := by kernel_rfl
theorem nm38 : (Try.f38.name == "runtime.NumGoroutine") = false := by kernel_rfl
theorem nm39 : (Try.f39.name == "runtime.NumGoroutine") = false := by kernel_rfl
theorem nm4 : (Try.f4.name == "runtime.NumGoroutine") = false := by kernel_rfl
theorem nm40 : (Try.f40.name == "runtime.NumGoroutine") = false := by kernel_rfl
theorem nm41 : (Try.f41.name == "runtime.NumGoroutine") = false := by kernel_rfl
theorem nm42 : (Try.f42.name == "runtime.NumGoroutine") = false := by kernel_rfl
theorem nm43 : (Try.f43.name == "runtime.NumGoroutine") = false := by kernel_rfl
theorem nm44 : (Try.f44.name == "runtime.NumGoroutine") = false := by kernel_rfl
theorem nm45 : (Try.f45.name == "runtime.NumGoroutine") = false := by kernel_rfl
theorem nm46 : (Try.f46.name == "runtime.NumGoroutine") = false := by kernel_rfl
theorem nm47 : (Try.f47.name == "runtime.NumGoroutine") = false := by kernel_rfl
theorem nm48 : (Try.f48.name == "runtime.NumGoroutine") = false := by kernel_rfl
theorem nm49 : (Try.f49.name == "runtime.NumGoroutine") = false := by kernel_rfl
theorem nm5 : (Try.f5.name == "runtime.NumGoroutine") = false := by kernel_rfl
theorem nm50 : (Try.f50.name == "runtime.NumGoroutine") = false := by kernel_rfl
theorem nm51 : (Try.f51.name == "runtime.NumGoroutine") = false := by kernel_rfl
theorem nm52 : (Try.f52.name == "runtime.NumGoroutine") = false := by kernel_rfl
theorem nm53 : (Try.f53.name == "runtime.NumGoroutine") = false := by kernel_rfl
theorem nm54 : (Try.f54.name == "runtime.NumGoroutine") = false := by kernel_rfl
theorem nm55 : (Try.f55.name == "runtime.NumGoroutine") = false := by kernel_rfl
theorem nm56 : (Try.f56.name == "runtime.NumGoroutine") = false := by kernel_rfl
theorem nm57 : (Try.f57.name == "runtime.NumGoroutine") = false := by kernel_rfl
theorem nm58 : (Try.f58.name == "runtime.NumGoroutine") = false := by kernel_rfl
theorem nm59 : (Try.f59.name == "runtime.NumGoroutine") = false := by kernel_rfl
theorem nm6 : (Try.f6.name == "runtime.NumGoroutine") = false := by kernel_rfl
theorem nm60 : (Try.f60.name == "runtime.NumGoroutine") = false := by kernel_rfl
theorem nm61 : (Try.f61.name == "runtime.NumGoroutine") = false := by kernel_rfl
theorem nm62 : (Try.f62.name == "runtime.NumGoroutine") = false := by kernel_rfl
theorem nm63 : (Try.f63.name == "runtime.NumGoroutine") = false := by kernel_rfl
theorem nm64 : (Try.f64.name == "runtime.NumGoroutine") = false := by kernel_rfl
theorem nm65 : (Try.f65.name == "runtime.NumGoroutine") = false := by kernel_rfl
theorem nm66 : (Try.f66.name == "runtime.NumGoroutine") = false := by kernel_rfl
theorem nm67 : (Try.f67.name == "runtime.NumGoroutine") = false := by kernel_rfl
theorem nm68 : (Try.f68.name == "runtime.NumGoroutine") = false := by kernel_rfl
theorem nm69 : (Try.f69.name == "runtime.NumGoroutine") = false := by kernel_rfl
theorem nm7 : (Try.f7.name == "runtime.NumGoroutine") = false := by kernel_rfl
theorem nm70 : (Try.f70.name == "runtime.NumGoroutine") = false := by kernel_rfl
theorem nm71 : (Try.f71.name == "runtime.NumGoroutine") = false := by kernel_rfl
theorem nm72 : (Try.f72.name == "runtime.NumGoroutine") = false := by kernel_rfl
theorem nm73 : (Try.f73.name == "runtime.NumGoroutine") = false := by kernel_rfl
theorem nm74 : (Try.f74.name == "runtime.NumGoroutine") = false := by kernel_rfl
theorem nm75 : (Try.f75.name == "runtime.NumGoroutine") = false := by kernel_rfl
theorem nm76 : (Try.f76.name == "runtime.NumGoroutine") = false := by kernel_rfl
theorem nm77 : (Try.f77.name == "runtime.NumGoroutine") = false := by kernel_rfl
theorem nm78 : (Try.f78.name == "runtime.NumGoroutine") = false := by kernel_rfl
theorem nm79 : (Try.f79.name == "runtime.NumGoroutine") = false := by kernel_rfl
theorem nm8 : (Try.f8.name == "runtime.NumGoroutine") = false := by kernel_rfl
theorem nm80 : (Try.f80.name == "runtime.NumGoroutine") = false := by kernel_rfl
theorem nm81 : (Try.f81.name == "runtime.NumGoroutine") = false := by kernel_rfl
theorem nm82 : (Try.f82.name == "runtime.NumGoroutine") = false := by kernel_rfl
theorem nm83 : (Try.f83.name == "runtime.NumGoroutine") = false := by kernel_rfl
theorem nm84 : (Try.f84.name == "runtime.NumGoroutine") = false := by kernel_rfl
theorem nm85 : (Try.f85.name == "runtime.NumGoroutine") = false := by kernel_rfl
theorem nm86 : (Try.f86.name == "runtime.NumGoroutine") = false := by kernel_rfl
theorem nm87 : (Try.f87.name == "runtime.NumGoroutine") = false := by kernel_rfl
theorem nm88 : (Try.f88.name == "runtime.NumGoroutine") = false := by kernel_rfl
theorem nm89 : (Try.f89.name == "runtime.NumGoroutine") = false := by kernel_rfl
theorem nm9 : (Try.f9.name == "runtime.NumGoroutine") = false := by kernel_rfl
theorem nm90 : (Try.f90.name == "runtime.NumGoroutine") = false := by kernel_rfl
theorem nm91 : (Try.f91.name == "runtime.NumGoroutine") = false := by kernel_rfl
theorem nm92 : (Try.f92.name == "runtime.NumGoroutine") = false := by kernel_rfl
theorem nm93 : (Try.f93.name == "runtime.NumGoroutine") = false := by kernel_rfl
theorem nm94 : (Try.f94.name == "runtime.NumGoroutine") = false := by kernel_rfl
theorem nm95 : (Try.f95.name == "runtime.NumGoroutine") = false := by kernel_rfl
theorem nm96 : (Try.f96.name == "runtime.NumGoroutine") = false := by kernel_rfl
theorem nm97 : (Try.f97.name == "runtime.NumGoroutine") = false := by kernel_rfl
theorem nm98 : (Try.f98.name == "runtime.NumGoroutine") = false := by kernel_rfl
theorem nm99 : (Try.f99.name == "runtime.NumGoroutine") = false := by kernel_rfl
theorem pl103 : structPl Try.prog 103 = some [(0, 1), (1, 1), (2, 1), (3, 1)] := by kernel_rfl
theorem pl104 : structPl Try.prog 104 = some [(0, 1), (1, 1), (2, 1), (3, 1)] := by kernel_rfl
theorem pl127 : structPl Try.prog 127 = some [(0, 1), (1, 1), (2, 1), (3, 1)] := by kernel_rfl
theorem pl128 : structPl Try.prog 128 = some [(0, 1), (1, 1), (2, 1), (3, 1)] := by kernel_rfl
theorem pl13 : structPl Try.prog 13 = some [(0, 1), (1, 1)] := by kernel_rfl
theorem pl130 : structPl Try.prog 130 = some [(0, 0)] := by kernel_rfl
theorem pl131 : structPl Try.prog 131 = some [(0, 0)] := by kernel_rfl
theorem pl138 : structPl Try.prog 138 = some [(0, 1), (1, 1), (2, 1), (3, 1), (4, 1), (5, 1), (6, 1), (7, 1), (8, 1), (9, 1), (10, 1)] := by kernel_rfl
theorem pl139 : structPl Try.prog 139 = some [(0, 1), (1, 1), (2, 1), (3, 1), (4, 1), (5, 1), (6, 1), (7, 1), (8, 1), (9, 1), (10, 1)] := by kernel_rfl
theorem pl14 : structPl Try.prog 14 = some [(0, 1), (1, 1)] := by kernel_rfl
theorem pl18 : structPl Try.prog 18 = some [(0, 1)] := by kernel_rfl
theorem pl19 : structPl Try.prog 19 = some [(0, 1)] := by kernel_rfl
theorem pl23 : structPl Try.prog 23 = some [(0, 1), (1, 1), (2, 1), (3, 1)] := by kernel_rfl
theorem pl24 : structPl Try.prog 24 = some [(0, 1), (1, 1), (2, 1), (3, 1)] := by kernel_rfl
theorem pl29 : structPl Try.prog 29 = some [(0, 1), (1, 1), (2, 1), (3, 1)] := by kernel_rfl
theorem pl30 : structPl Try.prog 30 = some [(0, 1), (1, 1), (2, 1), (3, 1)] := by kernel_rfl
theorem pl7 : structPl Try.prog 7 = some [(0, 1), (1, 1), (2, 1), (3, 1)] := by kernel_rfl
theorem pl8 : structPl Try.prog 8 = some [(0, 1), (1, 1), (2, 1), (3, 1)] := by kernel_rfl
theorem sl102 : slElem Try.prog 102 = some (104, 4, 56) := by kernel_rfl
theorem sl22 : slElem Try.prog 22 = some (24, 4, 56) := by kernel_rfl
theorem sl26 : slElem Try.prog 26 = some (41, 1, 24) := by kernel_rfl
theorem sl28 : slElem Try.prog 28 = some (30, 4, 56) := by kernel_rfl
theorem sl37 : slElem Try.prog 37 = some (9, 1, 16) := by kernel_rfl
theorem sl41 : slElem Try.prog 41 = some (3, 1, 8) := by kernel_rfl
theorem sl82 : slElem Try.prog 82 = some (5, 1, 1) := by kernel_rfl
theorem z10 : zeroT Try.prog 10 = some (.string ⟨#[]⟩) := by kernel_rfl
theorem z102 : zeroT Try.prog 102 = some (.slice none 0 0) := by kernel_rfl
theorem z103 : zeroT Try.prog 103 = some (.agg #[(.int .i64 0), (.int .i64 0), (.string ⟨#[]⟩), (.slice none 0 0)]) := by kernel_rfl
theorem z104 : zeroT Try.prog 104 = some (.agg #[(.int .i64 0), (.int .i64 0), (.string ⟨#[]⟩), (.slice none 0 0)]) := by kernel_rfl
theorem z11 : zeroT Try.prog 11 = some (.string ⟨#[]⟩) := by kernel_rfl
theorem z12 : zeroT Try.prog 12 = some (.int .u64 0) := by kernel_rfl
theorem z122 : zeroT Try.prog 122 = some (.int .u64 0) := by kernel_rfl
theorem z123 : zeroT Try.prog 123 = some (.int .u32 0) := by kernel_rfl
theorem z127 : zeroT Try.prog 127 = some (.agg #[(.pointer none), (.pointer none), (.pointer none), (.string ⟨#[]⟩)]) := by kernel_rfl
theorem z128 : zeroT Try.prog 128 = some (.agg #[(.pointer none), (.pointer none), (.pointer none), (.string ⟨#[]⟩)]) := by kernel_rfl
theorem z13 : zeroT Try.prog 13 = some (.agg #[(.string ⟨#[]⟩), (.int .u64 0)]) := by kernel_rfl
theorem z130 : zeroT Try.prog 130 = some (.agg #[]) := by kernel_rfl
theorem z131 : zeroT Try.prog 131 = some (.agg #[]) := by kernel_rfl
theorem z132 : zeroT Try.prog 132 = some (.int .u8 0) := by kernel_rfl
theorem z133 : zeroT Try.prog 133 = some (.int .u8 0) := by kernel_rfl
theorem z135 : zeroT Try.prog 135 = some (.pointer none) := by kernel_rfl
theorem z136 : zeroT Try.prog 136 = some (.int .i32 0) := by kernel_rfl
theorem z137 : zeroT Try.prog 137 = some (.int .i32 0) := by kernel_rfl
theorem z14 : zeroT Try.prog 14 = some (.agg #[(.string ⟨#[]⟩), (.int .u64 0)]) := by kernel_rfl
theorem z15 : zeroT Try.prog 15 = some (.pointer none) := by kernel_rfl
theorem z16 : zeroT Try.prog 16 = some (.pointer none) := by kernel_rfl
theorem z17 : zeroT Try.prog 17 = some (.pointer none) := by kernel_rfl
theorem z18 : zeroT Try.prog 18 = some (.agg #[(.pointer none)]) := by kernel_rfl
theorem z19 : zeroT Try.prog 19 = some (.agg #[(.pointer none)]) := by kernel_rfl
theorem z2 : zeroT Try.prog 2 = some (.int .i64 0) := by kernel_rfl
theorem z21 : zeroT Try.prog 21 = some (.int .i32 0) := by kernel_rfl
theorem z22 : zeroT Try.prog 22 = some (.slice none 0 0) := by kernel_rfl
theorem z23 : zeroT Try.prog 23 = some (.agg #[(.int .i64 0), (.int .i64 0), (.string ⟨#[]⟩), (.slice none 0 0)]) := by kernel_rfl
theorem z24 : zeroT Try.prog 24 = some (.agg #[(.int .i64 0), (.int .i64 0), (.string ⟨#[]⟩), (.slice none 0 0)]) := by kernel_rfl
theorem z26 : zeroT Try.prog 26 = some (.slice none 0 0) := by kernel_rfl
theorem z28 : zeroT Try.prog 28 = some (.slice none 0 0) := by kernel_rfl
theorem z29 : zeroT Try.prog 29 = some (.agg #[(.int .i64 0), (.int .i64 0), (.string ⟨#[]⟩), (.slice none 0 0)]) := by kernel_rfl
theorem z3 : zeroT Try.prog 3 = some (.int .i64 0) := by kernel_rfl
theorem z30 : zeroT Try.prog 30 = some (.agg #[(.int .i64 0), (.int .i64 0), (.string ⟨#[]⟩), (.slice none 0 0)]) := by kernel_rfl
theorem z37 : zeroT Try.prog 37 = some (.slice none 0 0) := by kernel_rfl
theorem z4 : zeroT Try.prog 4 = some (.bool false) := by kernel_rfl
theorem z41 : zeroT Try.prog 41 = some (.slice none 0 0) := by kernel_rfl
theorem z5 : zeroT Try.prog 5 = some (.int .u8 0) := by kernel_rfl
theorem z6 : zeroT Try.prog 6 = some (.int .u8 0) := by kernel_rfl
theorem z7 : zeroT Try.prog 7 = some (.agg #[(.int .i64 0), (.int .i64 0), (.bool false), (.int .u8 0)]) := by kernel_rfl
theorem z77 : zeroT Try.prog 77 = some (.pointer none) := by kernel_rfl
theorem z8 : zeroT Try.prog 8 = some (.agg #[(.int .i64 0), (.int .i64 0), (.bool false), (.int .u8 0)]) := by kernel_rfl
theorem z81 : zeroT Try.prog 81 = some (.pointer none) := by kernel_rfl
theorem z82 : zeroT Try.prog 82 = some (.slice none 0 0) := by kernel_rfl
theorem z9 : zeroT Try.prog 9 = some (.string ⟨#[]⟩) := by kernel_rfl
end Go.Proofs.Ytccdgppplkfjfaa
