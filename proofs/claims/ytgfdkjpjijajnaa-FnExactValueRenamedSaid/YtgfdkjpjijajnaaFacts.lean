/- Facts on the types and functions of this seat, each closed. Printed by this project's own gen.py. -/
import Derived.Test.YtgfdkjpjijajnaaAy
import Derived.Test.YtgfdkjpjijajnaaProg
import Derived.KernelRfl
namespace Go.Proofs.Ytgfdkjpjijajnaa
open Go Go.Ax Go.Proofs
theorem fo104_0 : fieldOff Try.prog 104 0 = some 0 := by kernel_rfl
theorem fo104_1 : fieldOff Try.prog 104 1 = some 1 := by kernel_rfl
theorem fo104_2 : fieldOff Try.prog 104 2 = some 2 := by kernel_rfl
theorem fo104_3 : fieldOff Try.prog 104 3 = some 3 := by kernel_rfl
theorem fo105_0 : fieldOff Try.prog 105 0 = some 0 := by kernel_rfl
theorem fo105_1 : fieldOff Try.prog 105 1 = some 1 := by kernel_rfl
theorem fo105_2 : fieldOff Try.prog 105 2 = some 2 := by kernel_rfl
theorem fo105_3 : fieldOff Try.prog 105 3 = some 3 := by kernel_rfl
theorem fo115_0 : fieldOff Try.prog 115 0 = some 0 := by kernel_rfl
theorem fo115_1 : fieldOff Try.prog 115 1 = some 1 := by kernel_rfl
theorem fo115_10 : fieldOff Try.prog 115 10 = some 10 := by kernel_rfl
theorem fo115_2 : fieldOff Try.prog 115 2 = some 2 := by kernel_rfl
theorem fo115_3 : fieldOff Try.prog 115 3 = some 3 := by kernel_rfl
theorem fo115_4 : fieldOff Try.prog 115 4 = some 4 := by kernel_rfl
theorem fo115_5 : fieldOff Try.prog 115 5 = some 5 := by kernel_rfl
theorem fo115_6 : fieldOff Try.prog 115 6 = some 6 := by kernel_rfl
theorem fo115_7 : fieldOff Try.prog 115 7 = some 7 := by kernel_rfl
theorem fo115_8 : fieldOff Try.prog 115 8 = some 8 := by kernel_rfl
theorem fo115_9 : fieldOff Try.prog 115 9 = some 9 := by kernel_rfl
theorem fo116_0 : fieldOff Try.prog 116 0 = some 0 := by kernel_rfl
theorem fo116_1 : fieldOff Try.prog 116 1 = some 1 := by kernel_rfl
theorem fo116_10 : fieldOff Try.prog 116 10 = some 10 := by kernel_rfl
theorem fo116_2 : fieldOff Try.prog 116 2 = some 2 := by kernel_rfl
theorem fo116_3 : fieldOff Try.prog 116 3 = some 3 := by kernel_rfl
theorem fo116_4 : fieldOff Try.prog 116 4 = some 4 := by kernel_rfl
theorem fo116_5 : fieldOff Try.prog 116 5 = some 5 := by kernel_rfl
theorem fo116_6 : fieldOff Try.prog 116 6 = some 6 := by kernel_rfl
theorem fo116_7 : fieldOff Try.prog 116 7 = some 7 := by kernel_rfl
theorem fo116_8 : fieldOff Try.prog 116 8 = some 8 := by kernel_rfl
theorem fo116_9 : fieldOff Try.prog 116 9 = some 9 := by kernel_rfl
theorem fo13_0 : fieldOff Try.prog 13 0 = some 0 := by kernel_rfl
theorem fo13_1 : fieldOff Try.prog 13 1 = some 1 := by kernel_rfl
theorem fo14_0 : fieldOff Try.prog 14 0 = some 0 := by kernel_rfl
theorem fo14_1 : fieldOff Try.prog 14 1 = some 1 := by kernel_rfl
theorem fo18_0 : fieldOff Try.prog 18 0 = some 0 := by kernel_rfl
theorem fo19_0 : fieldOff Try.prog 19 0 = some 0 := by kernel_rfl
theorem fo27_0 : fieldOff Try.prog 27 0 = some 0 := by kernel_rfl
theorem fo27_1 : fieldOff Try.prog 27 1 = some 1 := by kernel_rfl
theorem fo27_2 : fieldOff Try.prog 27 2 = some 2 := by kernel_rfl
theorem fo27_3 : fieldOff Try.prog 27 3 = some 3 := by kernel_rfl
theorem fo28_0 : fieldOff Try.prog 28 0 = some 0 := by kernel_rfl
theorem fo28_1 : fieldOff Try.prog 28 1 = some 1 := by kernel_rfl
theorem fo28_2 : fieldOff Try.prog 28 2 = some 2 := by kernel_rfl
theorem fo28_3 : fieldOff Try.prog 28 3 = some 3 := by kernel_rfl
theorem fo32_0 : fieldOff Try.prog 32 0 = some 0 := by kernel_rfl
theorem fo32_1 : fieldOff Try.prog 32 1 = some 1 := by kernel_rfl
theorem fo32_2 : fieldOff Try.prog 32 2 = some 2 := by kernel_rfl
theorem fo32_3 : fieldOff Try.prog 32 3 = some 3 := by kernel_rfl
theorem fo33_0 : fieldOff Try.prog 33 0 = some 0 := by kernel_rfl
theorem fo33_1 : fieldOff Try.prog 33 1 = some 1 := by kernel_rfl
theorem fo33_2 : fieldOff Try.prog 33 2 = some 2 := by kernel_rfl
theorem fo33_3 : fieldOff Try.prog 33 3 = some 3 := by kernel_rfl
theorem fo39_0 : fieldOff Try.prog 39 0 = some 0 := by kernel_rfl
theorem fo39_1 : fieldOff Try.prog 39 1 = some 1 := by kernel_rfl
theorem fo39_2 : fieldOff Try.prog 39 2 = some 2 := by kernel_rfl
theorem fo39_3 : fieldOff Try.prog 39 3 = some 3 := by kernel_rfl
theorem fo40_0 : fieldOff Try.prog 40 0 = some 0 := by kernel_rfl
theorem fo40_1 : fieldOff Try.prog 40 1 = some 1 := by kernel_rfl
theorem fo40_2 : fieldOff Try.prog 40 2 = some 2 := by kernel_rfl
theorem fo40_3 : fieldOff Try.prog 40 3 = some 3 := by kernel_rfl
theorem fo44_0 : fieldOff Try.prog 44 0 = some 0 := by kernel_rfl
theorem fo44_1 : fieldOff Try.prog 44 1 = some 1 := by kernel_rfl
theorem fo44_2 : fieldOff Try.prog 44 2 = some 2 := by kernel_rfl
theorem fo44_3 : fieldOff Try.prog 44 3 = some 3 := by kernel_rfl
theorem fo45_0 : fieldOff Try.prog 45 0 = some 0 := by kernel_rfl
theorem fo45_1 : fieldOff Try.prog 45 1 = some 1 := by kernel_rfl
theorem fo45_2 : fieldOff Try.prog 45 2 = some 2 := by kernel_rfl
theorem fo45_3 : fieldOff Try.prog 45 3 = some 3 := by kernel_rfl
theorem fo7_0 : fieldOff Try.prog 7 0 = some 0 := by kernel_rfl
theorem fo7_1 : fieldOff Try.prog 7 1 = some 1 := by kernel_rfl
theorem fo7_2 : fieldOff Try.prog 7 2 = some 2 := by kernel_rfl
theorem fo7_3 : fieldOff Try.prog 7 3 = some 3 := by kernel_rfl
theorem fo8_0 : fieldOff Try.prog 8 0 = some 0 := by kernel_rfl
theorem fo8_1 : fieldOff Try.prog 8 1 = some 1 := by kernel_rfl
theorem fo8_2 : fieldOff Try.prog 8 2 = some 2 := by kernel_rfl
theorem fo8_3 : fieldOff Try.prog 8 3 = some 3 := by kernel_rfl
theorem kd10 : kindT Try.prog 10 = some (false, 1) := by kernel_rfl
theorem kd100 : kindT Try.prog 100 = some (false, 1) := by kernel_rfl
theorem kd104 : kindT Try.prog 104 = some (true, 4) := by kernel_rfl
theorem kd105 : kindT Try.prog 105 = some (true, 4) := by kernel_rfl
theorem kd107 : kindT Try.prog 107 = some (true, 0) := by kernel_rfl
theorem kd108 : kindT Try.prog 108 = some (true, 0) := by kernel_rfl
theorem kd109 : kindT Try.prog 109 = some (false, 1) := by kernel_rfl
theorem kd11 : kindT Try.prog 11 = some (false, 1) := by kernel_rfl
theorem kd110 : kindT Try.prog 110 = some (false, 1) := by kernel_rfl
theorem kd112 : kindT Try.prog 112 = some (false, 1) := by kernel_rfl
theorem kd113 : kindT Try.prog 113 = some (false, 1) := by kernel_rfl
theorem kd114 : kindT Try.prog 114 = some (false, 1) := by kernel_rfl
theorem kd115 : kindT Try.prog 115 = some (true, 11) := by kernel_rfl
theorem kd116 : kindT Try.prog 116 = some (true, 11) := by kernel_rfl
theorem kd12 : kindT Try.prog 12 = some (false, 1) := by kernel_rfl
theorem kd13 : kindT Try.prog 13 = some (true, 2) := by kernel_rfl
theorem kd14 : kindT Try.prog 14 = some (true, 2) := by kernel_rfl
theorem kd15 : kindT Try.prog 15 = some (false, 1) := by kernel_rfl
theorem kd16 : kindT Try.prog 16 = some (false, 1) := by kernel_rfl
theorem kd17 : kindT Try.prog 17 = some (false, 1) := by kernel_rfl
theorem kd18 : kindT Try.prog 18 = some (true, 1) := by kernel_rfl
theorem kd19 : kindT Try.prog 19 = some (true, 1) := by kernel_rfl
theorem kd2 : kindT Try.prog 2 = some (false, 1) := by kernel_rfl
theorem kd21 : kindT Try.prog 21 = some (false, 1) := by kernel_rfl
theorem kd26 : kindT Try.prog 26 = some (false, 1) := by kernel_rfl
theorem kd27 : kindT Try.prog 27 = some (true, 4) := by kernel_rfl
theorem kd28 : kindT Try.prog 28 = some (true, 4) := by kernel_rfl
theorem kd3 : kindT Try.prog 3 = some (false, 1) := by kernel_rfl
theorem kd31 : kindT Try.prog 31 = some (false, 1) := by kernel_rfl
theorem kd32 : kindT Try.prog 32 = some (true, 4) := by kernel_rfl
theorem kd33 : kindT Try.prog 33 = some (true, 4) := by kernel_rfl
theorem kd38 : kindT Try.prog 38 = some (false, 1) := by kernel_rfl
theorem kd39 : kindT Try.prog 39 = some (true, 4) := by kernel_rfl
theorem kd4 : kindT Try.prog 4 = some (false, 1) := by kernel_rfl
theorem kd40 : kindT Try.prog 40 = some (true, 4) := by kernel_rfl
theorem kd43 : kindT Try.prog 43 = some (false, 1) := by kernel_rfl
theorem kd44 : kindT Try.prog 44 = some (true, 4) := by kernel_rfl
theorem kd45 : kindT Try.prog 45 = some (true, 4) := by kernel_rfl
theorem kd5 : kindT Try.prog 5 = some (false, 1) := by kernel_rfl
theorem kd55 : kindT Try.prog 55 = some (false, 1) := by kernel_rfl
theorem kd6 : kindT Try.prog 6 = some (false, 1) := by kernel_rfl
theorem kd7 : kindT Try.prog 7 = some (true, 4) := by kernel_rfl
theorem kd72 : kindT Try.prog 72 = some (false, 1) := by kernel_rfl
theorem kd8 : kindT Try.prog 8 = some (true, 4) := by kernel_rfl
theorem kd9 : kindT Try.prog 9 = some (false, 1) := by kernel_rfl
theorem kd96 : kindT Try.prog 96 = some (false, 1) := by kernel_rfl
theorem kd99 : kindT Try.prog 99 = some (false, 1) := by kernel_rfl
theorem nm10 : (Try.f10.name == "runtime.NumGoroutine") = false := by kernel_rfl
theorem nm100 : (Try.f100.name == "runtime.NumGoroutine") = false := by kernel_rfl
theorem nm101 : (Try.f101.name == "runtime.NumGoroutine") = false := by kernel_rfl
theorem nm102 : (Try.f102.name == "runtime.NumGoroutine") = false := by kernel_rfl
theorem nm103 : (Try.f103.name == "runtime.NumGoroutine") = false := by kernel_rfl
theorem nm104 : (Try.f104.name == "runtime.NumGoroutine") = false := by kernel_rfl
theorem nm105 : (Try.f105.name == "runtime.NumGoroutine") = false := by kernel_rfl
theorem nm106 : (Try.f106.name == "runtime.NumGoroutine") = false := by kernel_rfl
theorem nm107 : (Try.f107.name == "runtime.NumGoroutine") = false := by kernel_rfl
theorem nm108 : (Try.f108.name == "runtime.NumGoroutine") = false := by kernel_rfl
theorem nm109 : (Try.f109.name == "runtime.NumGoroutine") = false := by kernel_rfl
theorem nm11 : (Try.f11.name == "runtime.NumGoroutine") = false := by kernel_rfl
theorem nm110 : (Try.f110.name == "runtime.NumGoroutine") = false := by kernel_rfl
theorem nm12 : (Try.f12.name == "runtime.NumGoroutine") = false := by kernel_rfl
theorem nm13 : (Try.f13.name == "runtime.NumGoroutine") = false := by kernel_rfl
theorem nm133 : (Try.f133.name == "runtime.NumGoroutine") = false := by kernel_rfl
theorem nm14 : (Try.f14.name == "runtime.NumGoroutine") = false := by kernel_rfl
theorem nm15 : (Try.f15.name == "runtime.NumGoroutine") = false := by kernel_rfl
theorem nm16 : (Try.f16.name == "runtime.NumGoroutine") = false := by kernel_rfl
theorem nm17 : (Try.f17.name == "runtime.NumGoroutine") = false := by kernel_rfl
theorem nm18 : (Try.f18.name == "runtime.NumGoroutine") = false := by kernel_rfl
theorem nm19 : (Try.f19.name == "runtime.NumGoroutine") = false := by kernel_rfl
theorem nm20 : (Try.f20.name == "runtime.NumGoroutine") = false := by kernel_rfl
theorem nm21 : (Try.f21.name == "runtime.NumGoroutine") = false := by kernel_rfl
theorem nm22 : (Try.f22.name == "runtime.NumGoroutine") = false := by kernel_rfl
theorem nm23 : (Try.f23.name == "runtime.NumGoroutine") = false := by kernel_rfl
theorem nm24 : (Try.f24.name == "runtime.NumGoroutine") = false := by kernel_rfl
theorem nm25 : (Try.f25.name == "runtime.NumGoroutine") = false := by kernel_rfl
theorem nm26 : (Try.f26.name == "runtime.NumGoroutine") = false := by kernel_rfl
theorem nm27 : (Try.f27.name == "runtime.NumGoroutine") = false := by kernel_rfl
theorem nm28 : (Try.f28.name == "runtime.NumGoroutine") = false := by kernel_rfl
theorem nm29 : (Try.f29.name == "runtime.NumGoroutine") = false := by kernel_rfl
theorem nm3 : (Try.f3.name == "runtime.NumGoroutine") = false := by kernel_rfl
theorem nm30 : (Try.f30.name == "runtime.NumGoroutine") = false := by kernel_rfl
theorem nm31 : (Try.f31.name == "runtime.NumGoroutine") = false := by kernel_rfl
theorem nm32 : (Try.f32.name == "runtime.NumGoroutine") = false := by kernel_rfl
theorem nm33 : (Try.f33.name == "runtime.NumGoroutine") = false := by kernel_rfl
theorem nm34 : (Try.f34.name == "runtime.NumGoroutine") = false := by kernel_rfl
theorem nm35 : (Try.f35.name == "runtime.NumGoroutine") = false := by kernel_rfl
theorem nm36 : (Try.f36.name == "runtime.NumGoroutine") = false := by kernel_rfl
theorem nm37 : (Try.f37.name == "runtime.NumGoroutine") = false := by kernel_rfl
theorem nm38 : (Try.f38.name == "runtime.NumGoroutine") = false := by kernel_rfl
theorem nm39 : (Try.f39.name == "runtime.NumGoroutine") = false := by kernel_rfl
theorem nm4 : (Try.f4.name == "runtime.NumGoroutine") = false := by kernel_rfl
theorem nm40 : (Try.f40.name == "runtime.NumGoroutine") = false := by kernel_rfl
theorem nm41 : (Try.f41.name == "runtime.NumGoroutine") = false := by kernel_rfl
theorem nm42 : (Try.f42.name == "runtime.NumGoroutine") = false := by kernel_rfl
theorem nm43 : (Try.f43.name == "runtime.NumGoroutine") = false := by kernel_rfl
theorem nm44 : (Try.f44.name == "runtime.NumGoroutine") = false := by kernel_rfl
theorem nm45 : (Try.f45.name == "runtime.NumGoroutine") = false := by kernel_rfl
theorem nm46 : (Try.f46.name == "runtime.NumGoroutine") = false := by kernel_rfl
theorem nm47 : (Try.f47.name == "runtime.NumGoroutine") = false := by kernel_rfl
theorem nm48 : (Try.f48.name == "runtime.NumGoroutine") = false := by kernel_rfl
theorem nm49 : (Try.f49.name == "runtime.NumGoroutine") = false := by kernel_rfl
theorem nm5 : (Try.f5.name == "runtime.NumGoroutine") = false := by kernel_rfl
theorem nm50 : (Try.f50.name == "runtime.NumGoroutine") = false := by kernel_rfl
theorem nm51 : (Try.f51.name == "runtime.NumGoroutine") = false := by kernel_rfl
theorem nm52 : (Try.f52.name == "runtime.NumGoroutine") = false := by kernel_rfl
theorem nm53 : (Try.f53.name == "runtime.NumGoroutine") = false := by kernel_rfl
theorem nm54 : (Try.f54.name == "runtime.NumGoroutine") = false := by kernel_rfl
theorem nm55 : (Try.f55.name == "runtime.NumGoroutine") = false := by kernel_rfl
theorem nm56 : (Try.f56.name == "runtime.NumGoroutine") = false := by kernel_rfl
theorem nm57 : (Try.f57.name == "runtime.NumGoroutine") = false := by kernel_rfl
theorem nm58 : (Try.f58.name == "runtime.NumGoroutine") = false := by kernel_rfl
theorem nm59 : (Try.f59.name == "runtime.NumGoroutine") = false := by kernel_rfl
theorem nm6 : (Try.f6.name == "runtime.NumGoroutine") = false := by kernel_rfl
theorem nm60 : (Try.f60.name == "runtime.NumGoroutine") = false := by kernel_rfl
theorem nm61 : (Try.f61.name == "runtime.NumGoroutine") = false := by kernel_rfl
theorem nm62 : (Try.f62.name == "runtime.NumGoroutine") = false := by kernel_rfl
theorem nm63 : (Try.f63.name == "runtime.NumGoroutine") = false := by kernel_rfl
theorem nm64 : (Try.f64.name == "runtime.NumGoroutine") = false := by kernel_rfl
theorem nm65 : (Try.f65.name == "runtime.NumGoroutine") = false := by kernel_rfl
theorem nm66 : (Try.f66.name == "runtime.NumGoroutine") = false := by kernel_rfl
theorem nm67 : (Try.f67.name == "runtime.NumGoroutine") = false := by kernel_rfl
theorem nm68 : (Try.f68.name == "runtime.NumGoroutine") = false := by kernel_rfl
theorem nm69 : (Try.f69.name == "runtime.NumGoroutine") = false := by kernel_rfl
theorem nm7 : (Try.f7.name == "runtime.NumGoroutine") = false := by kernel_rfl
theorem nm70 : (Try.f70.name == "runtime.NumGoroutine") = false := by kernel_rfl
theorem nm71 : (Try.f71.name == "runtime.NumGoroutine") = false := by kernel_rfl
theorem nm72 : (Try.f72.name == "runtime.NumGoroutine") = false := by kernel_rfl
theorem nm73 : (Try.f73.name == "runtime.NumGoroutine") = false := by kernel_rfl
theorem nm74 : (Try.f74.name == "runtime.NumGoroutine") = false := by kernel_rfl
theorem nm75 : (Try.f75.name == "runtime.NumGoroutine") = false := by kernel_rfl
theorem nm76 : (Try.f76.name == "runtime.NumGoroutine") = false := by kernel_rfl
theorem nm77 : (Try.f77.name == "runtime.NumGoroutine") = false := by kernel_rfl
theorem nm78 : (Try.f78.name == "runtime.NumGoroutine") = false := by kernel_rfl
theorem nm79 : (Try.f79.name == "runtime.NumGoroutine") = false := by kernel_rfl
theorem nm8 : (Try.f8.name == "runtime.NumGoroutine") = false := by kernel_rfl
theorem nm80 : (Try.f80.name == "runtime.NumGoroutine") = false := by kernel_rfl
theorem nm81 : (Try.f81.name == "runtime.NumGoroutine") = false := by kernel_rfl
theorem nm82 : (Try.f82.name == "runtime.NumGoroutine") = false := by kernel_rfl
theorem nm83 : (Try.f83.name == "runtime.NumGoroutine") = false := by kernel_rfl
theorem nm84 : (Try.f84.name == "runtime.NumGoroutine") = false := by kernel_rfl
theorem nm85 : (Try.f85.name == "runtime.NumGoroutine") = false := by kernel_rfl
theorem nm86 : (Try.f86.name == "runtime.NumGoroutine") = false := by kernel_rfl
theorem nm87 : (Try.f87.name == "runtime.NumGoroutine") = false := by kernel_rfl
theorem nm88 : (Try.f88.name == "runtime.NumGoroutine") = false := by kernel_rfl
theorem nm89 : (Try.f89.name == "runtime.NumGoroutine") = false := by kernel_rfl
theorem nm9 : (Try.f9.name == "runtime.NumGoroutine") = false := by kernel_rfl
theorem nm90 : (Try.f90.name == "runtime.NumGoroutine") = false := by kernel_rfl
theorem nm91 : (Try.f91.name == "runtime.NumGoroutine") = false := by kernel_rfl
theorem nm92 : (Try.f92.name == "runtime.NumGoroutine") = false := by kernel_rfl
theorem nm93 : (Try.f93.name == "runtime.NumGoroutine") = false := by kernel_rfl
theorem nm94 : (Try.f94.name == "runtime.NumGoroutine") = false := by kernel_rfl
theorem nm95 : (Try.f95.name == "runtime.NumGoroutine") = false := by kernel_rfl
theorem nm96 : (Try.f96.name == "runtime.NumGoroutine") = false := by kernel_rfl
theorem nm97 : (Try.f97.name == "runtime.NumGoroutine") = false := by kernel_rfl
theorem nm98 : (Try.f98.name == "runtime.NumGoroutine") = false := by kernel_rfl
theorem nm99 : (Try.f99.name == "runtime.NumGoroutine") = false := by kernel_rfl
theorem pl104 : structPl Try.prog 104 = some [(0, 1), (1, 1), (2, 1), (3, 1)] := by kernel_rfl
theorem pl105 : structPl Try.prog 105 = some [(0, 1), (1, 1), (2, 1), (3, 1)] := by kernel_rfl
theorem pl107 : structPl Try.prog 107 = some [(0, 0)] := by kernel_rfl
theorem pl108 : structPl Try.prog 108 = some [(0, 0)] := by kernel_rfl
theorem pl115 : structPl Try.prog 115 = some [(0, 1), (1, 1), (2, 1), (3, 1), (4, 1), (5, 1), (6, 1), (7, 1), (8, 1), (9, 1), (10, 1)] := by kernel_rfl
theorem pl116 : structPl Try.prog 116 = some [(0, 1), (1, 1), (2, 1), (3, 1), (4, 1), (5, 1), (6, 1), (7, 1), (8, 1), (9, 1), (10, 1)] := by kernel_rfl
theorem pl13 : structPl Try.prog 13 = some [(0, 1), (1, 1)] := by kernel_rfl
theorem pl14 : structPl Try.prog 14 = some [(0, 1), (1, 1)] := by kernel_rfl
theorem pl18 : structPl Try.prog 18 = some [(0, 1)] := by kernel_rfl
theorem pl19 : structPl Try.prog 19 = some [(0, 1)] := by kernel_rfl
theorem pl27 : structPl Try.prog 27 = some [(0, 1), (1, 1), (2, 1), (3, 1)] := by kernel_rfl
theorem pl28 : structPl Try.prog 28 = some [(0, 1), (1, 1), (2, 1), (3, 1)] := by kernel_rfl
theorem pl32 : structPl Try.prog 32 = some [(0, 1), (1, 1), (2, 1), (3, 1)] := by kernel_rfl
theorem pl33 : structPl Try.prog 33 = some [(0, 1), (1, 1), (2, 1), (3, 1)] := by kernel_rfl
theorem pl39 : structPl Try.prog 39 = some [(0, 1), (1, 1), (2, 1), (3, 1)] := by kernel_rfl
theorem pl40 : structPl Try.prog 40 = some [(0, 1), (1, 1), (2, 1), (3, 1)] := by kernel_rfl
theorem pl44 : structPl Try.prog 44 = some [(0, 1), (1, 1), (2, 1), (3, 1)] := by kernel_rfl
theorem pl45 : structPl Try.prog 45 = some [(0, 1), (1, 1), (2, 1), (3, 1)] := by kernel_rfl
theorem pl7 : structPl Try.prog 7 = some [(0, 1), (1, 1), (2, 1), (3, 1)] := by kernel_rfl
theorem pl8 : structPl Try.prog 8 = some [(0, 1), (1, 1), (2, 1), (3, 1)] := by kernel_rfl
theorem sl26 : slElem Try.prog 26 = some (28, 4, 56) := by kernel_rfl
theorem sl31 : slElem Try.prog 31 = some (33, 4, 56) := by kernel_rfl
theorem sl38 : slElem Try.prog 38 = some (40, 4, 56) := by kernel_rfl
theorem sl43 : slElem Try.prog 43 = some (45, 4, 56) := by kernel_rfl
theorem sl55 : slElem Try.prog 55 = some (9, 1, 16) := by kernel_rfl
theorem sl96 : slElem Try.prog 96 = some (5, 1, 1) := by kernel_rfl
theorem z10 : zeroT Try.prog 10 = some (.string ⟨#[]⟩) := by kernel_rfl
theorem z100 : zeroT Try.prog 100 = some (.int .u32 0) := by kernel_rfl
theorem z104 : zeroT Try.prog 104 = some (.agg #[(.pointer none), (.pointer none), (.pointer none), (.string ⟨#[]⟩)]) := by kernel_rfl
theorem z105 : zeroT Try.prog 105 = some (.agg #[(.pointer none), (.pointer none), (.pointer none), (.string ⟨#[]⟩)]) := by kernel_rfl
theorem z107 : zeroT Try.prog 107 = some (.agg #[]) := by kernel_rfl
theorem z108 : zeroT Try.prog 108 = some (.agg #[]) := by kernel_rfl
theorem z109 : zeroT Try.prog 109 = some (.int .u8 0) := by kernel_rfl
theorem z11 : zeroT Try.prog 11 = some (.string ⟨#[]⟩) := by kernel_rfl
theorem z110 : zeroT Try.prog 110 = some (.int .u8 0) := by kernel_rfl
theorem z112 : zeroT Try.prog 112 = some (.pointer none) := by kernel_rfl
theorem z113 : zeroT Try.prog 113 = some (.int .i32 0) := by kernel_rfl
theorem z114 : zeroT Try.prog 114 = some (.int .i32 0) := by kernel_rfl
theorem z12 : zeroT Try.prog 12 = some (.int .u64 0) := by kernel_rfl
theorem z13 : zeroT Try.prog 13 = some (.agg #[(.string ⟨#[]⟩), (.int .u64 0)]) := by kernel_rfl
theorem z14 : zeroT Try.prog 14 = some (.agg #[(.string ⟨#[]⟩), (.int .u64 0)]) := by kernel_rfl
theorem z15 : zeroT Try.prog 15 = some (.pointer none) := by kernel_rfl
theorem z16 : zeroT Try.prog 16 = some (.pointer none) := by kernel_rfl
theorem z17 : zeroT Try.prog 17 = some (.pointer none) := by kernel_rfl
theorem z18 : zeroT Try.prog 18 = some (.agg #[(.pointer none)]) := by kernel_rfl
theorem z19 : zeroT Try.prog 19 = some (.agg #[(.pointer none)]) := by kernel_rfl
theorem z2 : zeroT Try.prog 2 = some (.int .i64 0) := by kernel_rfl
theorem z21 : zeroT Try.prog 21 = some (.int .i32 0) := by kernel_rfl
theorem z26 : zeroT Try.prog 26 = some (.slice none 0 0) := by kernel_rfl
theorem z27 : zeroT Try.prog 27 = some (.agg #[(.int .i64 0), (.int .i64 0), (.string ⟨#[]⟩), (.slice none 0 0)]) := by kernel_rfl
theorem z28 : zeroT Try.prog 28 = some (.agg #[(.int .i64 0), (.int .i64 0), (.string ⟨#[]⟩), (.slice none 0 0)]) := by kernel_rfl
theorem z3 : zeroT Try.prog 3 = some (.int .i64 0) := by kernel_rfl
theorem z31 : zeroT Try.prog 31 = some (.slice none 0 0) := by kernel_rfl
theorem z32 : zeroT Try.prog 32 = some (.agg #[(.int .i64 0), (.int .i64 0), (.string ⟨#[]⟩), (.slice none 0 0)]) := by kernel_rfl
theorem z33 : zeroT Try.prog 33 = some (.agg #[(.int .i64 0), (.int .i64 0), (.string ⟨#[]⟩), (.slice none 0 0)]) := by kernel_rfl
theorem z38 : zeroT Try.prog 38 = some (.slice none 0 0) := by kernel_rfl
theorem z39 : zeroT Try.prog 39 = some (.agg #[(.int .i64 0), (.int .i64 0), (.string ⟨#[]⟩), (.slice none 0 0)]) := by kernel_rfl
theorem z4 : zeroT Try.prog 4 = some (.bool false) := by kernel_rfl
theorem z40 : zeroT Try.prog 40 = some (.agg #[(.int .i64 0), (.int .i64 0), (.string ⟨#[]⟩), (.slice none 0 0)]) := by kernel_rfl
theorem z43 : zeroT Try.prog 43 = some (.slice none 0 0) := by kernel_rfl
theorem z44 : zeroT Try.prog 44 = some (.agg #[(.int .i64 0), (.int .i64 0), (.string ⟨#[]⟩), (.slice none 0 0)]) := by kernel_rfl
theorem z45 : zeroT Try.prog 45 = some (.agg #[(.int .i64 0), (.int .i64 0), (.string ⟨#[]⟩), (.slice none 0 0)]) := by kernel_rfl
theorem z5 : zeroT Try.prog 5 = some (.int .u8 0) := by kernel_rfl
theorem z55 : zeroT Try.prog 55 = some (.slice none 0 0) := by kernel_rfl
theorem z6 : zeroT Try.prog 6 = some (.int .u8 0) := by kernel_rfl
theorem z7 : zeroT Try.prog 7 = some (.agg #[(.int .i64 0), (.int .i64 0), (.bool false), (.int .u8 0)]) := by kernel_rfl
theorem z72 : zeroT Try.prog 72 = some (.pointer none) := by kernel_rfl
theorem z8 : zeroT Try.prog 8 = some (.agg #[(.int .i64 0), (.int .i64 0), (.bool false), (.int .u8 0)]) := by kernel_rfl
theorem z9 : zeroT Try.prog 9 = some (.string ⟨#[]⟩) := by kernel_rfl
theorem z96 : zeroT Try.prog 96 = some (.slice none 0 0) := by kernel_rfl
theorem z99 : zeroT Try.prog 99 = some (.int .u64 0) := by kernel_rfl
end Go.Proofs.Ytgfdkjpjijajnaa
