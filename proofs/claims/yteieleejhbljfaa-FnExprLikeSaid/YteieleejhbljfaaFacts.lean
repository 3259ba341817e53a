/- Facts on the types and functions of this seat, each closed. Printed by this project's own gen.py. -/
import Derived.Test.YteieleejhbljfaaAy
import Derived.Test.YteieleejhbljfaaProg
import Derived.KernelRfl
namespace Go.Proofs.Yteieleejhbljfaa
open Go Go.Ax Go.Proofs
theorem fo115_0 : fieldOff Try.prog 115 0 = some 0 := by kernel_rfl
theorem fo115_1 : fieldOff Try.prog 115 1 = some 1 := by kernel_rfl
theorem fo116_0 : fieldOff Try.prog 116 0 = some 0 := by kernel_rfl
theorem fo116_1 : fieldOff Try.prog 116 1 = some 1 := by kernel_rfl
theorem fo124_0 : fieldOff Try.prog 124 0 = some 0 := by kernel_rfl
theorem fo124_1 : fieldOff Try.prog 124 1 = some 1 := by kernel_rfl
theorem fo125_0 : fieldOff Try.prog 125 0 = some 0 := by kernel_rfl
theorem fo125_1 : fieldOff Try.prog 125 1 = some 1 := by kernel_rfl
theorem fo133_0 : fieldOff Try.prog 133 0 = some 0 := by kernel_rfl
theorem fo133_1 : fieldOff Try.prog 133 1 = some 1 := by kernel_rfl
theorem fo133_2 : fieldOff Try.prog 133 2 = some 2 := by kernel_rfl
theorem fo133_3 : fieldOff Try.prog 133 3 = some 3 := by kernel_rfl
theorem fo134_0 : fieldOff Try.prog 134 0 = some 0 := by kernel_rfl
theorem fo134_1 : fieldOff Try.prog 134 1 = some 1 := by kernel_rfl
theorem fo134_2 : fieldOff Try.prog 134 2 = some 2 := by kernel_rfl
theorem fo134_3 : fieldOff Try.prog 134 3 = some 3 := by kernel_rfl
theorem fo13_0 : fieldOff Try.prog 13 0 = some 0 := by kernel_rfl
theorem fo13_1 : fieldOff Try.prog 13 1 = some 1 := by kernel_rfl
theorem fo144_0 : fieldOff Try.prog 144 0 = some 0 := by kernel_rfl
theorem fo144_1 : fieldOff Try.prog 144 1 = some 1 := by kernel_rfl
theorem fo144_10 : fieldOff Try.prog 144 10 = some 10 := by kernel_rfl
theorem fo144_2 : fieldOff Try.prog 144 2 = some 2 := by kernel_rfl
theorem fo144_3 : fieldOff Try.prog 144 3 = some 3 := by kernel_rfl
theorem fo144_4 : fieldOff Try.prog 144 4 = some 4 := by kernel_rfl
theorem fo144_5 : fieldOff Try.prog 144 5 = some 5 := by kernel_rfl
theorem fo144_6 : fieldOff Try.prog 144 6 = some 6 := by kernel_rfl
theorem fo144_7 : fieldOff Try.prog 144 7 = some 7 := by kernel_rfl
theorem fo144_8 : fieldOff Try.prog 144 8 = some 8 := by kernel_rfl
theorem fo144_9 : fieldOff Try.prog 144 9 = some 9 := by kernel_rfl
theorem fo145_0 : fieldOff Try.prog 145 0 = some 0 := by kernel_rfl
theorem fo145_1 : fieldOff Try.prog 145 1 = some 1 := by kernel_rfl
theorem fo145_10 : fieldOff Try.prog 145 10 = some 10 := by kernel_rfl
theorem fo145_2 : fieldOff Try.prog 145 2 = some 2 := by kernel_rfl
theorem fo145_3 : fieldOff Try.prog 145 3 = some 3 := by kernel_rfl
theorem fo145_4 : fieldOff Try.prog 145 4 = some 4 := by kernel_rfl
theorem fo145_5 : fieldOff Try.prog 145 5 = some 5 := by kernel_rfl
theorem fo145_6 : fieldOff Try.prog 145 6 = some 6 := by kernel_rfl
theorem fo145_7 : fieldOff Try.prog 145 7 = some 7 := by kernel_rfl
theorem fo145_8 : fieldOff Try.prog 145 8 = some 8 := by kernel_rfl
theorem fo145_9 : fieldOff Try.prog 145 9 = some 9 := by kernel_rfl
theorem fo14_0 : fieldOff Try.prog 14 0 = some 0 := by kernel_rfl
theorem fo14_1 : fieldOff Try.prog 14 1 = some 1 := by kernel_rfl
theorem fo18_0 : fieldOff Try.prog 18 0 = some 0 := by kernel_rfl
theorem fo19_0 : fieldOff Try.prog 19 0 = some 0 := by kernel_rfl
theorem fo24_0 : fieldOff Try.prog 24 0 = some 0 := by kernel_rfl
theorem fo24_1 : fieldOff Try.prog 24 1 = some 1 := by kernel_rfl
theorem fo24_2 : fieldOff Try.prog 24 2 = some 2 := by kernel_rfl
theorem fo24_3 : fieldOff Try.prog 24 3 = some 3 := by kernel_rfl
theorem fo25_0 : fieldOff Try.prog 25 0 = some 0 := by kernel_rfl
theorem fo25_1 : fieldOff Try.prog 25 1 = some 1 := by kernel_rfl
theorem fo25_2 : fieldOff Try.prog 25 2 = some 2 := by kernel_rfl
theorem fo25_3 : fieldOff Try.prog 25 3 = some 3 := by kernel_rfl
theorem fo69_0 : fieldOff Try.prog 69 0 = some 0 := by kernel_rfl
theorem fo69_1 : fieldOff Try.prog 69 1 = some 1 := by kernel_rfl
theorem fo70_0 : fieldOff Try.prog 70 0 = some 0 := by kernel_rfl
theorem fo70_1 : fieldOff Try.prog 70 1 = some 1 := by kernel_rfl
theorem fo74_0 : fieldOff Try.prog 74 0 = some 0 := by kernel_rfl
theorem fo74_1 : fieldOff Try.prog 74 1 = some 1 := by kernel_rfl
theorem fo74_2 : fieldOff Try.prog 74 2 = some 2 := by kernel_rfl
theorem fo74_3 : fieldOff Try.prog 74 3 = some 3 := by kernel_rfl
theorem fo74_4 : fieldOff Try.prog 74 4 = some 4 := by kernel_rfl
theorem fo75_0 : fieldOff Try.prog 75 0 = some 0 := by kernel_rfl
theorem fo75_1 : fieldOff Try.prog 75 1 = some 1 := by kernel_rfl
theorem fo75_2 : fieldOff Try.prog 75 2 = some 2 := by kernel_rfl
theorem fo75_3 : fieldOff Try.prog 75 3 = some 3 := by kernel_rfl
theorem fo75_4 : fieldOff Try.prog 75 4 = some 4 := by kernel_rfl
theorem fo76_0 : fieldOff Try.prog 76 0 = some 0 := by kernel_rfl
theorem fo76_1 : fieldOff Try.prog 76 1 = some 1 := by kernel_rfl
theorem fo77_0 : fieldOff Try.prog 77 0 = some 0 := by kernel_rfl
theorem fo77_1 : fieldOff Try.prog 77 1 = some 1 := by kernel_rfl
theorem fo7_0 : fieldOff Try.prog 7 0 = some 0 := by kernel_rfl
theorem fo7_1 : fieldOff Try.prog 7 1 = some 1 := by kernel_rfl
theorem fo7_2 : fieldOff Try.prog 7 2 = some 2 := by kernel_rfl
theorem fo7_3 : fieldOff Try.prog 7 3 = some 3 := by kernel_rfl
theorem fo8_0 : fieldOff Try.prog 8 0 = some 0 := by kernel_rfl
theorem fo8_1 : fieldOff Try.prog 8 1 = some 1 := by kernel_rfl
theorem fo8_2 : fieldOff Try.prog 8 2 = some 2 := by kernel_rfl
theorem fo8_3 : fieldOff Try.prog 8 3 = some 3 := by kernel_rfl
theorem fo93_0 : fieldOff Try.prog 93 0 = some 0 := by kernel_rfl
theorem fo93_1 : fieldOff Try.prog 93 1 = some 1 := by kernel_rfl
theorem fo93_2 : fieldOff Try.prog 93 2 = some 2 := by kernel_rfl
theorem fo93_3 : fieldOff Try.prog 93 3 = some 3 := by kernel_rfl
theorem fo93_4 : fieldOff Try.prog 93 4 = some 4 := by kernel_rfl
theorem fo94_0 : fieldOff Try.prog 94 0 = some 0 := by kernel_rfl
theorem fo94_1 : fieldOff Try.prog 94 1 = some 1 := by kernel_rfl
theorem fo94_2 : fieldOff Try.prog 94 2 = some 2 := by kernel_rfl
theorem fo94_3 : fieldOff Try.prog 94 3 = some 3 := by kernel_rfl
theorem fo94_4 : fieldOff Try.prog 94 4 = some 4 := by kernel_rfl
theorem fo98_0 : fieldOff Try.prog 98 0 = some 0 := by kernel_rfl
theorem fo98_1 : fieldOff Try.prog 98 1 = some 1 := by kernel_rfl
theorem fo98_2 : fieldOff Try.prog 98 2 = some 2 := by kernel_rfl
theorem fo99_0 : fieldOff Try.prog 99 0 = some 0 := by kernel_rfl
theorem fo99_1 : fieldOff Try.prog 99 1 = some 1 := by kernel_rfl
theorem fo99_2 : fieldOff Try.prog 99 2 = some 2 := by kernel_rfl
theorem kd10 : kindT Try.prog 10 = some (false, 1) := by kernel_rfl
theorem kd11 : kindT Try.prog 11 = some (false, 1) := by kernel_rfl
theorem kd115 : kindT Try.prog 115 = some (true, 2) := by kernel_rfl
theorem kd116 : kindT Try.prog 116 = some (true, 2) := by kernel_rfl
theorem kd12 : kindT Try.prog 12 = some (false, 1) := by kernel_rfl
theorem kd124 : kindT Try.prog 124 = some (true, 2) := by kernel_rfl
theorem kd125 : kindT Try.prog 125 = some (true, 2) := by kernel_rfl
theorem kd129 : kindT Try.prog 129 = some (false, 1) := by kernel_rfl
theorem kd13 : kindT Try.prog 13 = some (true, 2) := by kernel_rfl
theorem kd130 : kindT Try.prog 130 = some (false, 1) := by kernel_rfl
theorem kd133 : kindT Try.prog 133 = some (true, 4) := by kernel_rfl
theorem kd134 : kindT Try.prog 134 = some (true, 4) := by kernel_rfl
theorem kd136 : kindT Try.prog 136 = some (true, 0) := by kernel_rfl
theorem kd137 : kindT Try.prog 137 = some (true, 0) := by kernel_rfl
theorem kd138 : kindT Try.prog 138 = some (false, 1) := by kernel_rfl
theorem kd139 : kindT Try.prog 139 = some (false, 1) := by kernel_rfl
theorem kd14 : kindT Try.prog 14 = some (true, 2) := by kernel_rfl
theorem kd141 : kindT Try.prog 141 = some (false, 1) := by kernel_rfl
theorem kd142 : kindT Try.prog 142 = some (false, 1) := by kernel_rfl
theorem kd143 : kindT Try.prog 143 = some (false, 1) := by kernel_rfl
theorem kd144 : kindT Try.prog 144 = some (true, 11) := by kernel_rfl
theorem kd145 : kindT Try.prog 145 = some (true, 11) := by kernel_rfl
theorem kd15 : kindT Try.prog 15 = some (false, 1) := by kernel_rfl
theorem kd16 : kindT Try.prog 16 = some (false, 1) := by kernel_rfl
theorem kd17 : kindT Try.prog 17 = some (false, 1) := by kernel_rfl
theorem kd18 : kindT Try.prog 18 = some (true, 1) := by kernel_rfl
theorem kd19 : kindT Try.prog 19 = some (true, 1) := by kernel_rfl
theorem kd2 : kindT Try.prog 2 = some (false, 1) := by kernel_rfl
theorem kd21 : kindT Try.prog 21 = some (false, 1) := by kernel_rfl
theorem kd22 : kindT Try.prog 22 = some (false, 1) := by kernel_rfl
theorem kd23 : kindT Try.prog 23 = some (false, 1) := by kernel_rfl
theorem kd24 : kindT Try.prog 24 = some (true, 4) := by kernel_rfl
theorem kd25 : kindT Try.prog 25 = some (true, 4) := by kernel_rfl
theorem kd28 : kindT Try.prog 28 = some (false, 1) := by kernel_rfl
theorem kd3 : kindT Try.prog 3 = some (false, 1) := by kernel_rfl
theorem kd32 : kindT Try.prog 32 = some (false, 1) := by kernel_rfl
theorem kd35 : kindT Try.prog 35 = some (false, 1) := by kernel_rfl
theorem kd4 : kindT Try.prog 4 = some (false, 1) := by kernel_rfl
theorem kd48 : kindT Try.prog 48 = some (false, 1) := by kernel_rfl
theorem kd5 : kindT Try.prog 5 = some (false, 1) := by kernel_rfl
theorem kd58 : kindT Try.prog 58 = some (false, 1) := by kernel_rfl
theorem kd6 : kindT Try.prog 6 = some (false, 1) := by kernel_rfl
theorem kd69 : kindT Try.prog 69 = some (true, 2) := by kernel_rfl
theorem kd7 : kindT Try.prog 7 = some (true, 4) := by kernel_rfl
theorem kd70 : kindT Try.prog 70 = some (true, 2) := by kernel_rfl
theorem kd71 : kindT Try.prog 71 = some (false, 1) := by kernel_rfl
theorem kd72 : kindT Try.prog 72 = some (false, 1) := by kernel_rfl
theorem kd74 : kindT Try.prog 74 = some (true, 5) := by kernel_rfl
theorem kd75 : kindT Try.prog 75 = some (true, 5) := by kernel_rfl
theorem kd76 : kindT Try.prog 76 = some (true, 2) := by kernel_rfl
theorem kd77 : kindT Try.prog 77 = some (true, 2) := by kernel_rfl
theorem kd78 : kindT Try.prog 78 = some (false, 1) := by kernel_rfl
theorem kd8 : kindT Try.prog 8 = some (true, 4) := by kernel_rfl
theorem kd83 : kindT Try.prog 83 = some (false, 1) := by kernel_rfl
theorem kd9 : kindT Try.prog 9 = some (false, 1) := by kernel_rfl
theorem kd93 : kindT Try.prog 93 = some (true, 8) := by kernel_rfl
theorem kd94 : kindT Try.prog 94 = some (true, 8) := by kernel_rfl
theorem kd96 : kindT Try.prog 96 = some (false, 1) := by kernel_rfl
theorem kd97 : kindT Try.prog 97 = some (false, 1) := by kernel_rfl
theorem kd98 : kindT Try.prog 98 = some (true, 3) := by kernel_rfl
theorem kd99 : kindT Try.prog 99 = some (true, 3) := by kernel_rfl
theorem nm10 : (Try.f10.name == "runtime.NumGoroutine") = false := by kernel_rfl
theorem nm100 : (Try.f100.name == "runtime.NumGoroutine") = false := by kernel_rfl
theorem nm101 : (Try.f101.name == "runtime.NumGoroutine") = false := by kernel_rfl
theorem nm102 : (Try.f102.name == "runtime.NumGoroutine") = false := by kernel_rfl
theorem nm103 : (Try.f103.name == "runtime.NumGoroutine") = false := by kernel_rfl
theorem nm104 : (Try.f104.name == "runtime.NumGoroutine") = false := by kernel_rfl
theorem nm105 : (Try.f105.name == "runtime.NumGoroutine") = false := by kernel_rfl
theorem nm106 : (Try.f106.name == "runtime.NumGoroutine") = false := by kernel_rfl
theorem nm107 : (Try.f107.name == "runtime.NumGoroutine") = false := by kernel_rfl
theorem nm108 : (Try.f108.name == "runtime.NumGoroutine") = false := by kernel_rfl
theorem nm109 : (Try.f109.name == "runtime.NumGoroutine") = false := by kernel_rfl
theorem nm11 : (Try.f11.name == "runtime.NumGoroutine") = false := by kernel_rfl
theorem nm110 : (Try.f110.name == "runtime.NumGoroutine") = false := by kernel_rfl
theorem nm111 : (Try.f111.name == "runtime.NumGoroutine") = false := by kernel_rfl
theorem nm112 : (Try.f112.name == "runtime.NumGoroutine") = false := by kernel_rfl
theorem nm113 : (Try.f113.name == "runtime.NumGoroutine") = false := by kernel_rfl
theorem nm114 : (Try.f114.name == "runtime.NumGoroutine") = false := by kernel_rfl
theorem nm115 : (Try.f115.name == "runtime.NumGoroutine") = false := by kernel_rfl
theorem nm116 : (Try.f116.name == "runtime.NumGoroutine") = false := by kernel_rfl
theorem nm117 : (Try.f117.name == "runtime.NumGoroutine") = false := by kernel_rfl
theorem nm118 : (Try.f118.name == "runtime.NumGoroutine") = false := by kernel_rfl
theorem nm119 : (Try.f119.name == "runtime.NumGoroutine") = false := by kernel_rfl
theorem nm12 : (Try.f12.name == "runtime.NumGoroutine") = false := by kernel_rfl
theorem nm120 : (Try.f120.name == "runtime.NumGoroutine") = false := by kernel_rfl
theorem nm121 : (Try.f121.name == "runtime.NumGoroutine") = false := by kernel_rfl
theorem nm122 : (Try.f122.name == "runtime.NumGoroutine") = false := by kernel_rfl
theorem nm123 : (Try.f123.name == "runtime.NumGoroutine") = false := by kernel_rfl
theorem nm124 : (Try.f124.name == "runtime.NumGoroutine") = false := by kernel_rfl
theorem nm125 : (Try.f125.name == "runtime.NumGoroutine") = false := by kernel_rfl
theorem nm126 : (Try.f126.name == "runtime.NumGoroutine") = false := by kernel_rfl
theorem nm13 : (Try.f13.name == "runtime.NumGoroutine") = false := by kernel_rfl
theorem nm14 : (Try.f14.name == "runtime.NumGoroutine") = false := by kernel_rfl
theorem nm149 : (Try.f149.name == "runtime.NumGoroutine") = false := by kernel_rfl
theorem nm15 : (Try.f15.name == "runtime.NumGoroutine") = false := by kernel_rfl
theorem nm150 : (Try.f150.name == "runtime.NumGoroutine") = false := by kernel_rfl
theorem nm151 : (Try.f151.name == "runtime.NumGoroutine") = false := by kernel_rfl
theorem nm16 : (Try.f16.name == "runtime.NumGoroutine") = false := by kernel_rfl
theorem nm17 : (Try.f17.name == "runtime.NumGoroutine") = false := by kernel_rfl
theorem nm18 : (Try.f18.name == "runtime.NumGoroutine") = false := by kernel_rfl
theorem nm19 : (Try.f19.name == "runtime.NumGoroutine") = false := by kernel_rfl
theorem nm20 : (Try.f20.name == "runtime.NumGoroutine") = false := by kernel_rfl
theorem nm21 : (Try.f21.name == "runtime.NumGoroutine") = false := by kernel_rfl
theorem nm22 : (Try.f22.name == "runtime.NumGoroutine") = false := by kernel_rfl
theorem nm23 : (Try.f23.name == "runtime.NumGoroutine") = false := by kernel_rfl
theorem nm24 : (Try.f24.name == "runtime.NumGoroutine") = false := by kernel_rfl
theorem nm25 : (Try.f25.name == "runtime.NumGoroutine") = false := by kernel_rfl
theorem nm26 : (Try.f26.name == "runtime.NumGoroutine") = false := by kernel_rfl
theorem nm27 : (Try.f27.name == "runtime.NumGoroutine") = false := by kernel_rfl
theorem nm28 : (Try.f28.name == "runtime.NumGoroutine") = false := by kernel_rfl
theorem nm29 : (Try.f29.name == "runtime.NumGoroutine") = false := by kernel_rfl
theorem nm3 : (Try.f3.name == "runtime.NumGoroutine") = false := by kernel_rfl
theorem nm30 : (Try.f30.name == "runtime.NumGoroutine") = false := by kernel_rfl
theorem nm31 : (Try.f31.name == "runtime.NumGoroutine") = false := by kernel_rfl
theorem nm32 : (Try.f32.name == "runtime.NumGoroutine") = false := by kernel_rfl
theorem nm33 : (Try.f33.name == "runtime.NumGoroutine") = false := by kernel_rfl
theorem nm34 : (Try.f34.name == "runtime.NumGoroutine") = false := by kernel_rfl
theorem nm35 : (Try.f35.name == "runtime.NumGoroutine") = false := by kernel_rfl
theorem nm36 : (Try.f36.name == "runtime.NumGoroutine") = false := by kernel_rfl
theorem nm37 : (Try.f37.name == "runtime.NumGoroutine") = false := by kernel_rfl
theorem nm38 : (Try.f38.name == "runtime.NumGoroutine") = false := by kernel_rfl
theorem nm39 : (Try.f39.name == "runtime.NumGoroutine") = false := by kernel_rfl
theorem nm4 : (Try.f4.name == "runtime.NumGoroutine") = false := by kernel_rfl
theorem nm40 : (Try.f40.name == "runtime.NumGoroutine") = false := by kernel_rfl
theorem nm41 : (Try.f41.name == "runtime.NumGoroutine") = false := by kernel_rfl
theorem nm42 : (Try.f42.name == "runtime.NumGoroutine") = false := by kernel_rfl
theorem nm43 : (Try.f43.name == "runtime.NumGoroutine") = false := by kernel_rfl
theorem nm44 : (Try.f44.name == "runtime.NumGoroutine") = false := by kernel_rfl
theorem nm45 : (Try.f45.name == "runtime.NumGoroutine") = false := by kernel_rfl
theorem nm46 : (Try.f46.name == "runtime.NumGoroutine") = false := by kernel_rfl
theorem nm47 : (Try.f47.name == "runtime.NumGoroutine") = false := by kernel_rfl
theorem nm48 : (Try.f48.name == "runtime.NumGoroutine") = false := by kernel_rfl
theorem nm49 : (Try.f49.name == "runtime.NumGoroutine") = false := by kernel_rfl
theorem nm5 : (Try.f5.name == "runtime.NumGoroutine") = false := by kernel_rfl
theorem nm50 : (Try.f50.name == "runtime.NumGoroutine") = false := by kernel_rfl
theorem nm51 : (Try.f51.name == "runtime.NumGoroutine") = false := by kernel_rfl
theorem nm52 : (Try.f52.name == "runtime.NumGoroutine") = false := by kernel_rfl
theorem nm53 : (Try.f53.name == "runtime.NumGoroutine") = false := by kernel_rfl
theorem nm54 : (Try.f54.name == "runtime.NumGoroutine") = false := by kernel_rfl
theorem nm55 : (Try.f55.name == "runtime.NumGoroutine") = false := by kernel_rfl
theorem nm56 : (Try.f56.name == "runtime.NumGoroutine") = false := by kernel_rfl
theorem nm57 : (Try.f57.name == "runtime.NumGoroutine") = false := by kernel_rfl
theorem nm58 : (Try.f58.name == "runtime.NumGoroutine") = false := by kernel_rfl
theorem nm59 : (Try.f59.name == "runtime.NumGoroutine") = false := by kernel_rfl
theorem nm6 : (Try.f6.name == "runtime.NumGoroutine") = false := by kernel_rfl
theorem nm60 : (Try.f60.name == "runtime.NumGoroutine") = false := by kernel_rfl
theorem nm61 : (Try.f61.name == "runtime.NumGoroutine") = false := by kernel_rfl
theorem nm62 : (Try.f62.name == "runtime.NumGoroutine") = false := by kernel_rfl
theorem nm63 : (Try.f63.name == "runtime.NumGoroutine") = false := by kernel_rfl
theorem nm64 : (Try.f64.name == "runtime.NumGoroutine") = false := by kernel_rfl
theorem nm65 : (Try.f65.name == "runtime.NumGoroutine") = false := by kernel_rfl
theorem nm66 : (Try.f66.name == "runtime.NumGoroutine") = false := by kernel_rfl
theorem nm67 : (Try.f67.name == "runtime.NumGoroutine") = false := by kernel_rfl
theorem nm68 : (Try.f68.name == "runtime.NumGoroutine") = false := by kernel_rfl
theorem nm69 : (Try.f69.name == "runtime.NumGoroutine") = false := by kernel_rfl
theorem nm7 : (Try.f7.name == "runtime.NumGoroutine") = false := by kernel_rfl
theorem nm70 : (Try.f70.name == "runtime.NumGoroutine") = false := by kernel_rfl
theorem nm71 : (Try.f71.name == "runtime.NumGoroutine") = false := by kernel_rfl
theorem nm72 : (Try.f72.name == "runtime.NumGoroutine") = false := by kernel_rfl
theorem nm73 : (Try.f73.name == "runtime.NumGoroutine") = false := by kernel_rfl
theorem nm74 : (Try.f74.name == "runtime.NumGoroutine") = false := by kernel_rfl
theorem nm75 : (Try.f75.name == "runtime.NumGoroutine") = false := by kernel_rfl
theorem nm76 : (Try.f76.name == "runtime.NumGoroutine") = false := by kernel_rfl
theorem nm77 : (Try.f77.name == "runtime.NumGoroutine") = false := by kernel_rfl
theorem nm78 : (Try.f78.name == "runtime.NumGoroutine") = false := by kernel_rfl
theorem nm79 : (Try.f79.name == "runtime.NumGoroutine") = false := by kernel_rfl
theorem nm8 : (Try.f8.name == "runtime.NumGoroutine") = false := by kernel_rfl
theorem nm80 : (Try.f80.name == "runtime.NumGoroutine") = false := by kernel_rfl
theorem nm81 : (Try.f81.name == "runtime.NumGoroutine") = false := by kernel_rfl
theorem nm82 : (Try.f82.name == "runtime.NumGoroutine") = false := by kernel_rfl
theorem nm83 : (Try.f83.name == "runtime.NumGoroutine") = false := by kernel_rfl
theorem nm84 : (Try.f84.name == "runtime.NumGoroutine") = false := by kernel_rfl
theorem nm85 : (Try.f85.name == "runtime.NumGoroutine") = false := by kernel_rfl
theorem nm86 : (Try.f86.name == "runtime.NumGoroutine") = false := by kernel_rfl
theorem nm87 : (Try.f87.name == "runtime.NumGoroutine") = false := by kernel_rfl
theorem nm88 : (Try.f88.name == "runtime.NumGoroutine") = false := by kernel_rfl
theorem nm89 : (Try.f89.name == "runtime.NumGoroutine") = false := by kernel_rfl
theorem nm9 : (Try.f9.name == "runtime.NumGoroutine") = false := by kernel_rfl
theorem nm90 : (Try.f90.name == "runtime.NumGoroutine") = false := by kernel_rfl
theorem nm91 : (Try.f91.name == "runtime.NumGoroutine") = false := by kernel_rfl
theorem nm92 : (Try.f92.name == "runtime.NumGoroutine") = false := by kernel_rfl
theorem nm93 : (Try.f93.name == "runtime.NumGoroutine") = false := by kernel_rfl
theorem nm94 : (Try.f94.name == "runtime.NumGoroutine") = false := by kernel_rfl
theorem nm95 : (Try.f95.name == "runtime.NumGoroutine") = false := by kernel_rfl
theorem nm96 : (Try.f96.name == "runtime.NumGoroutine") = false := by kernel_rfl
theorem nm97 : (Try.f97.name == "runtime.NumGoroutine") = false := by kernel_rfl
theorem nm98 : (Try.f98.name == "runtime.NumGoroutine") = false := by kernel_rfl
theorem nm99 : (Try.f99.name == "runtime.NumGoroutine") = false := by kernel_rfl
theorem pl115 : structPl Try.prog 115 = some [(0, 1), (1, 1)] := by kernel_rfl
theorem pl116 : structPl Try.prog 116 = some [(0, 1), (1, 1)] := by kernel_rfl
theorem pl124 : structPl Try.prog 124 = some [(0, 1), (1, 1)] := by kernel_rfl
theorem pl125 : structPl Try.prog 125 = some [(0, 1), (1, 1)] := by kernel_rfl
theorem pl13 : structPl Try.prog 13 = some [(0, 1), (1, 1)] := by kernel_rfl
theorem pl133 : structPl Try.prog 133 = some [(0, 1), (1, 1), (2, 1), (3, 1)] := by kernel_rfl
theorem pl134 : structPl Try.prog 134 = some [(0, 1), (1, 1), (2, 1), (3, 1)] := by kernel_rfl
theorem pl136 : structPl Try.prog 136 = some [(0, 0)] := by kernel_rfl
theorem pl137 : structPl Try.prog 137 = some [(0, 0)] := by kernel_rfl
theorem pl14 : structPl Try.prog 14 = some [(0, 1), (1, 1)] := by kernel_rfl
theorem pl144 : structPl Try.prog 144 = some [(0, 1), (1, 1), (2, 1), (3, 1), (4, 1), (5, 1), (6, 1), (7, 1), (8, 1), (9, 1), (10, 1)] := by kernel_rfl
theorem pl145 : structPl Try.prog 145 = some [(0, 1), (1, 1), (2, 1), (3, 1), (4, 1), (5, 1), (6, 1), (7, 1), (8, 1), (9, 1), (10, 1)] := by kernel_rfl
theorem pl18 : structPl Try.prog 18 = some [(0, 1)] := by kernel_rfl
theorem pl19 : structPl Try.prog 19 = some [(0, 1)] := by kernel_rfl
theorem pl24 : structPl Try.prog 24 = some [(0, 1), (1, 1), (2, 1), (3, 1)] := by kernel_rfl
theorem pl25 : structPl Try.prog 25 = some [(0, 1), (1, 1), (2, 1), (3, 1)] := by kernel_rfl
theorem pl69 : structPl Try.prog 69 = some [(0, 1), (1, 1)] := by kernel_rfl
theorem pl7 : structPl Try.prog 7 = some [(0, 1), (1, 1), (2, 1), (3, 1)] := by kernel_rfl
theorem pl70 : structPl Try.prog 70 = some [(0, 1), (1, 1)] := by kernel_rfl
theorem pl74 : structPl Try.prog 74 = some [(0, 1), (1, 1), (2, 1), (3, 1), (4, 1)] := by kernel_rfl
theorem pl75 : structPl Try.prog 75 = some [(0, 1), (1, 1), (2, 1), (3, 1), (4, 1)] := by kernel_rfl
theorem pl76 : structPl Try.prog 76 = some [(0, 1), (1, 1)] := by kernel_rfl
theorem pl77 : structPl Try.prog 77 = some [(0, 1), (1, 1)] := by kernel_rfl
theorem pl8 : structPl Try.prog 8 = some [(0, 1), (1, 1), (2, 1), (3, 1)] := by kernel_rfl
theorem pl93 : structPl Try.prog 93 = some [(0, 1), (1, 1), (2, 1), (3, 1), (4, 4)] := by kernel_rfl
theorem pl94 : structPl Try.prog 94 = some [(0, 1), (1, 1), (2, 1), (3, 1), (4, 4)] := by kernel_rfl
theorem pl98 : structPl Try.prog 98 = some [(0, 1), (1, 1), (2, 1)] := by kernel_rfl
theorem pl99 : structPl Try.prog 99 = some [(0, 1), (1, 1), (2, 1)] := by kernel_rfl
theorem sl22 : slElem Try.prog 22 = some (5, 1, 1) := by kernel_rfl
theorem sl23 : slElem Try.prog 23 = some (25, 4, 56) := by kernel_rfl
theorem sl28 : slElem Try.prog 28 = some (32, 1, 24) := by kernel_rfl
theorem sl32 : slElem Try.prog 32 = some (3, 1, 8) := by kernel_rfl
theorem sl35 : slElem Try.prog 35 = some (9, 1, 16) := by kernel_rfl
theorem sl72 : slElem Try.prog 72 = some (99, 3, 64) := by kernel_rfl
theorem sl78 : slElem Try.prog 78 = some (77, 2, 32) := by kernel_rfl
theorem sl96 : slElem Try.prog 96 = some (94, 8, 120) := by kernel_rfl
theorem sl97 : slElem Try.prog 97 = some (125, 2, 32) := by kernel_rfl
theorem z10 : zeroT Try.prog 10 = some (.string ⟨#[]⟩) := by kernel_rfl
theorem z11 : zeroT Try.prog 11 = some (.string ⟨#[]⟩) := by kernel_rfl
theorem z115 : zeroT Try.prog 115 = some (.agg #[(.int .i64 0), (.int .i64 0)]) := by kernel_rfl
theorem z116 : zeroT Try.prog 116 = some (.agg #[(.int .i64 0), (.int .i64 0)]) := by kernel_rfl
theorem z12 : zeroT Try.prog 12 = some (.int .u64 0) := by kernel_rfl
theorem z124 : zeroT Try.prog 124 = some (.agg #[(.string ⟨#[]⟩), (.string ⟨#[]⟩)]) := by kernel_rfl
theorem z125 : zeroT Try.prog 125 = some (.agg #[(.string ⟨#[]⟩), (.string ⟨#[]⟩)]) := by kernel_rfl
theorem z129 : zeroT Try.prog 129 = some (.int .u64 0) := by kernel_rfl
theorem z13 : zeroT Try.prog 13 = some (.agg #[(.string ⟨#[]⟩), (.int .u64 0)]) := by kernel_rfl
theorem z130 : zeroT Try.prog 130 = some (.int .u32 0) := by kernel_rfl
theorem z133 : zeroT Try.prog 133 = some (.agg #[(.pointer none), (.pointer none), (.pointer none), (.string ⟨#[]⟩)]) := by kernel_rfl
theorem z134 : zeroT Try.prog 134 = some (.agg #[(.pointer none), (.pointer none), (.pointer none), (.string ⟨#[]⟩)]) := by kernel_rfl
theorem z136 : zeroT Try.prog 136 = some (.agg #[]) := by kernel_rfl
theorem z137 : zeroT Try.prog 137 = some (.agg #[]) := by kernel_rfl
theorem z138 : zeroT Try.prog 138 = some (.int .u8 0) := by kernel_rfl
theorem z139 : zeroT Try.prog 139 = some (.int .u8 0) := by kernel_rfl
theorem z14 : zeroT Try.prog 14 = some (.agg #[(.string ⟨#[]⟩), (.int .u64 0)]) := by kernel_rfl
theorem z141 : zeroT Try.prog 141 = some (.pointer none) := by kernel_rfl
theorem z142 : zeroT Try.prog 142 = some (.int .i32 0) := by kernel_rfl
theorem z143 : zeroT Try.prog 143 = some (.int .i32 0) := by kernel_rfl
theorem z15 : zeroT Try.prog 15 = some (.pointer none) := by kernel_rfl
theorem z16 : zeroT Try.prog 16 = some (.pointer none) := by kernel_rfl
theorem z17 : zeroT Try.prog 17 = some (.pointer none) := by kernel_rfl
theorem z18 : zeroT Try.prog 18 = some (.agg #[(.pointer none)]) := by kernel_rfl
theorem z19 : zeroT Try.prog 19 = some (.agg #[(.pointer none)]) := by kernel_rfl
theorem z2 : zeroT Try.prog 2 = some (.int .i64 0) := by kernel_rfl
theorem z21 : zeroT Try.prog 21 = some (.int .i32 0) := by kernel_rfl
theorem z22 : zeroT Try.prog 22 = some (.slice none 0 0) := by kernel_rfl
theorem z23 : zeroT Try.prog 23 = some (.slice none 0 0) := by kernel_rfl
theorem z24 : zeroT Try.prog 24 = some (.agg #[(.int .i64 0), (.int .i64 0), (.string ⟨#[]⟩), (.slice none 0 0)]) := by kernel_rfl
theorem z25 : zeroT Try.prog 25 = some (.agg #[(.int .i64 0), (.int .i64 0), (.string ⟨#[]⟩), (.slice none 0 0)]) := by kernel_rfl
theorem z28 : zeroT Try.prog 28 = some (.slice none 0 0) := by kernel_rfl
theorem z3 : zeroT Try.prog 3 = some (.int .i64 0) := by kernel_rfl
theorem z32 : zeroT Try.prog 32 = some (.slice none 0 0) := by kernel_rfl
theorem z35 : zeroT Try.prog 35 = some (.slice none 0 0) := by kernel_rfl
theorem z4 : zeroT Try.prog 4 = some (.bool false) := by kernel_rfl
theorem z48 : zeroT Try.prog 48 = some (.pointer none) := by kernel_rfl
theorem z5 : zeroT Try.prog 5 = some (.int .u8 0) := by kernel_rfl
theorem z58 : zeroT Try.prog 58 = some (.pointer none) := by kernel_rfl
theorem z6 : zeroT Try.prog 6 = some (.int .u8 0) := by kernel_rfl
theorem z69 : zeroT Try.prog 69 = some (.agg #[(.slice none 0 0), (.int .i64 0)]) := by kernel_rfl
theorem z7 : zeroT Try.prog 7 = some (.agg #[(.int .i64 0), (.int .i64 0), (.bool false), (.int .u8 0)]) := by kernel_rfl
theorem z70 : zeroT Try.prog 70 = some (.agg #[(.slice none 0 0), (.int .i64 0)]) := by kernel_rfl
theorem z71 : zeroT Try.prog 71 = some (.pointer none) := by kernel_rfl
theorem z72 : zeroT Try.prog 72 = some (.slice none 0 0) := by kernel_rfl
theorem z74 : zeroT Try.prog 74 = some (.agg #[(.pointer none), (.slice none 0 0), (.int .i64 0), (.int .i64 0), (.bool false)]) := by kernel_rfl
theorem z75 : zeroT Try.prog 75 = some (.agg #[(.pointer none), (.slice none 0 0), (.int .i64 0), (.int .i64 0), (.bool false)]) := by kernel_rfl
theorem z76 : zeroT Try.prog 76 = some (.agg #[(.string ⟨#[]⟩), (.string ⟨#[]⟩)]) := by kernel_rfl
theorem z77 : zeroT Try.prog 77 = some (.agg #[(.string ⟨#[]⟩), (.string ⟨#[]⟩)]) := by kernel_rfl
theorem z78 : zeroT Try.prog 78 = some (.slice none 0 0) := by kernel_rfl
theorem z8 : zeroT Try.prog 8 = some (.agg #[(.int .i64 0), (.int .i64 0), (.bool false), (.int .u8 0)]) := by kernel_rfl
theorem z83 : zeroT Try.prog 83 = some (.pointer none) := by kernel_rfl
theorem z9 : zeroT Try.prog 9 = some (.string ⟨#[]⟩) := by kernel_rfl
theorem z93 : zeroT Try.prog 93 = some (.agg #[(.int .i64 0), (.string ⟨#[]⟩), (.slice none 0 0), (.string ⟨#[]⟩), (.int .i64 0), (.int .i64 0), (.string ⟨#[]⟩), (.slice none 0 0)]) := by kernel_rfl
theorem z94 : zeroT Try.prog 94 = some (.agg #[(.int .i64 0), (.string ⟨#[]⟩), (.slice none 0 0), (.string ⟨#[]⟩), (.int .i64 0), (.int .i64 0), (.string ⟨#[]⟩), (.slice none 0 0)]) := by kernel_rfl
theorem z96 : zeroT Try.prog 96 = some (.slice none 0 0) := by kernel_rfl
theorem z97 : zeroT Try.prog 97 = some (.slice none 0 0) := by kernel_rfl
theorem z98 : zeroT Try.prog 98 = some (.agg #[(.string ⟨#[]⟩), (.slice none 0 0), (.slice none 0 0)]) := by kernel_rfl
theorem z99 : zeroT Try.prog 99 = some (.agg #[(.string ⟨#[]⟩), (.slice none 0 0), (.slice none 0 0)]) := by kernel_rfl
end Go.Proofs.Yteieleejhbljfaa
