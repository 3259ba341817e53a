/- Facts on the types and functions of this seat, each closed. Printed by this project's own gen.py. -/
import Derived.Test.YteieleejhbljfaaGreatAy
import Derived.Test.YteieleejhbljfaaGreatProg
import Derived.KernelRfl
namespace Go.Proofs.YteieleejhbljfaaGreat
open Go Go.Ax Go.Proofs
theorem fo102_0 : fieldOff Tryz.prog 102 0 = some 0 := by kernel_rfl
theorem fo102_1 : fieldOff Tryz.prog 102 1 = some 1 := by kernel_rfl
theorem fo103_0 : fieldOff Tryz.prog 103 0 = some 0 := by kernel_rfl
theorem fo103_1 : fieldOff Tryz.prog 103 1 = some 1 := by kernel_rfl
theorem fo139_0 : fieldOff Tryz.prog 139 0 = some 0 := by kernel_rfl
theorem fo139_1 : fieldOff Tryz.prog 139 1 = some 1 := by kernel_rfl
theorem fo13_0 : fieldOff Tryz.prog 13 0 = some 0 := by kernel_rfl
theorem fo13_1 : fieldOff Tryz.prog 13 1 = some 1 := by kernel_rfl
theorem fo140_0 : fieldOff Tryz.prog 140 0 = some 0 := by kernel_rfl
theorem fo140_1 : fieldOff Tryz.prog 140 1 = some 1 := by kernel_rfl
theorem fo14_0 : fieldOff Tryz.prog 14 0 = some 0 := by kernel_rfl
theorem fo14_1 : fieldOff Tryz.prog 14 1 = some 1 := by kernel_rfl
theorem fo154_0 : fieldOff Tryz.prog 154 0 = some 0 := by kernel_rfl
theorem fo154_1 : fieldOff Tryz.prog 154 1 = some 1 := by kernel_rfl
theorem fo154_2 : fieldOff Tryz.prog 154 2 = some 2 := by kernel_rfl
theorem fo154_3 : fieldOff Tryz.prog 154 3 = some 3 := by kernel_rfl
theorem fo155_0 : fieldOff Tryz.prog 155 0 = some 0 := by kernel_rfl
theorem fo155_1 : fieldOff Tryz.prog 155 1 = some 1 := by kernel_rfl
theorem fo155_2 : fieldOff Tryz.prog 155 2 = some 2 := by kernel_rfl
theorem fo155_3 : fieldOff Tryz.prog 155 3 = some 3 := by kernel_rfl
theorem fo165_0 : fieldOff Tryz.prog 165 0 = some 0 := by kernel_rfl
theorem fo165_1 : fieldOff Tryz.prog 165 1 = some 1 := by kernel_rfl
theorem fo165_10 : fieldOff Tryz.prog 165 10 = some 10 := by kernel_rfl
theorem fo165_2 : fieldOff Tryz.prog 165 2 = some 2 := by kernel_rfl
theorem fo165_3 : fieldOff Tryz.prog 165 3 = some 3 := by kernel_rfl
theorem fo165_4 : fieldOff Tryz.prog 165 4 = some 4 := by kernel_rfl
theorem fo165_5 : fieldOff Tryz.prog 165 5 = some 5 := by kernel_rfl
theorem fo165_6 : fieldOff Tryz.prog 165 6 = some 6 := by kernel_rfl
theorem fo165_7 : fieldOff Tryz.prog 165 7 = some 7 := by kernel_rfl
theorem fo165_8 : fieldOff Tryz.prog 165 8 = some 8 := by kernel_rfl
theorem fo165_9 : fieldOff Tryz.prog 165 9 = some 9 := by kernel_rfl
theorem fo166_0 : fieldOff Tryz.prog 166 0 = some 0 := by kernel_rfl
theorem fo166_1 : fieldOff Tryz.prog 166 1 = some 1 := by kernel_rfl
theorem fo166_10 : fieldOff Tryz.prog 166 10 = some 10 := by kernel_rfl
theorem fo166_2 : fieldOff Tryz.prog 166 2 = some 2 := by kernel_rfl
theorem fo166_3 : fieldOff Tryz.prog 166 3 = some 3 := by kernel_rfl
theorem fo166_4 : fieldOff Tryz.prog 166 4 = some 4 := by kernel_rfl
theorem fo166_5 : fieldOff Tryz.prog 166 5 = some 5 := by kernel_rfl
theorem fo166_6 : fieldOff Tryz.prog 166 6 = some 6 := by kernel_rfl
theorem fo166_7 : fieldOff Tryz.prog 166 7 = some 7 := by kernel_rfl
theorem fo166_8 : fieldOff Tryz.prog 166 8 = some 8 := by kernel_rfl
theorem fo166_9 : fieldOff Tryz.prog 166 9 = some 9 := by kernel_rfl
theorem fo18_0 : fieldOff Tryz.prog 18 0 = some 0 := by kernel_rfl
theorem fo19_0 : fieldOff Tryz.prog 19 0 = some 0 := by kernel_rfl
theorem fo24_0 : fieldOff Tryz.prog 24 0 = some 0 := by kernel_rfl
theorem fo24_1 : fieldOff Tryz.prog 24 1 = some 1 := by kernel_rfl
theorem fo24_2 : fieldOff Tryz.prog 24 2 = some 2 := by kernel_rfl
theorem fo24_3 : fieldOff Tryz.prog 24 3 = some 3 := by kernel_rfl
theorem fo25_0 : fieldOff Tryz.prog 25 0 = some 0 := by kernel_rfl
theorem fo25_1 : fieldOff Tryz.prog 25 1 = some 1 := by kernel_rfl
theorem fo25_2 : fieldOff Tryz.prog 25 2 = some 2 := by kernel_rfl
theorem fo25_3 : fieldOff Tryz.prog 25 3 = some 3 := by kernel_rfl
theorem fo64_0 : fieldOff Tryz.prog 64 0 = some 0 := by kernel_rfl
theorem fo64_1 : fieldOff Tryz.prog 64 1 = some 1 := by kernel_rfl
theorem fo65_0 : fieldOff Tryz.prog 65 0 = some 0 := by kernel_rfl
theorem fo65_1 : fieldOff Tryz.prog 65 1 = some 1 := by kernel_rfl
theorem fo68_0 : fieldOff Tryz.prog 68 0 = some 0 := by kernel_rfl
theorem fo68_1 : fieldOff Tryz.prog 68 1 = some 1 := by kernel_rfl
theorem fo68_2 : fieldOff Tryz.prog 68 2 = some 2 := by kernel_rfl
theorem fo68_3 : fieldOff Tryz.prog 68 3 = some 3 := by kernel_rfl
theorem fo68_4 : fieldOff Tryz.prog 68 4 = some 4 := by kernel_rfl
theorem fo69_0 : fieldOff Tryz.prog 69 0 = some 0 := by kernel_rfl
theorem fo69_1 : fieldOff Tryz.prog 69 1 = some 1 := by kernel_rfl
theorem fo69_2 : fieldOff Tryz.prog 69 2 = some 2 := by kernel_rfl
theorem fo69_3 : fieldOff Tryz.prog 69 3 = some 3 := by kernel_rfl
theorem fo69_4 : fieldOff Tryz.prog 69 4 = some 4 := by kernel_rfl
theorem fo72_0 : fieldOff Tryz.prog 72 0 = some 0 := by kernel_rfl
theorem fo72_1 : fieldOff Tryz.prog 72 1 = some 1 := by kernel_rfl
theorem fo72_2 : fieldOff Tryz.prog 72 2 = some 2 := by kernel_rfl
theorem fo73_0 : fieldOff Tryz.prog 73 0 = some 0 := by kernel_rfl
theorem fo73_1 : fieldOff Tryz.prog 73 1 = some 1 := by kernel_rfl
theorem fo73_2 : fieldOff Tryz.prog 73 2 = some 2 := by kernel_rfl
theorem fo7_0 : fieldOff Tryz.prog 7 0 = some 0 := by kernel_rfl
theorem fo7_1 : fieldOff Tryz.prog 7 1 = some 1 := by kernel_rfl
theorem fo7_2 : fieldOff Tryz.prog 7 2 = some 2 := by kernel_rfl
theorem fo7_3 : fieldOff Tryz.prog 7 3 = some 3 := by kernel_rfl
theorem fo80_0 : fieldOff Tryz.prog 80 0 = some 0 := by kernel_rfl
theorem fo80_1 : fieldOff Tryz.prog 80 1 = some 1 := by kernel_rfl
theorem fo81_0 : fieldOff Tryz.prog 81 0 = some 0 := by kernel_rfl
theorem fo81_1 : fieldOff Tryz.prog 81 1 = some 1 := by kernel_rfl
theorem fo83_0 : fieldOff Tryz.prog 83 0 = some 0 := by kernel_rfl
theorem fo83_1 : fieldOff Tryz.prog 83 1 = some 1 := by kernel_rfl
theorem fo83_2 : fieldOff Tryz.prog 83 2 = some 2 := by kernel_rfl
theorem fo83_3 : fieldOff Tryz.prog 83 3 = some 3 := by kernel_rfl
theorem fo83_4 : fieldOff Tryz.prog 83 4 = some 4 := by kernel_rfl
theorem fo84_0 : fieldOff Tryz.prog 84 0 = some 0 := by kernel_rfl
theorem fo84_1 : fieldOff Tryz.prog 84 1 = some 1 := by kernel_rfl
theorem fo84_2 : fieldOff Tryz.prog 84 2 = some 2 := by kernel_rfl
theorem fo84_3 : fieldOff Tryz.prog 84 3 = some 3 := by kernel_rfl
theorem fo84_4 : fieldOff Tryz.prog 84 4 = some 4 := by kernel_rfl
theorem fo88_0 : fieldOff Tryz.prog 88 0 = some 0 := by kernel_rfl
theorem fo88_1 : fieldOff Tryz.prog 88 1 = some 1 := by kernel_rfl
theorem fo89_0 : fieldOff Tryz.prog 89 0 = some 0 := by kernel_rfl
theorem fo89_1 : fieldOff Tryz.prog 89 1 = some 1 := by kernel_rfl
theorem fo8_0 : fieldOff Tryz.prog 8 0 = some 0 := by kernel_rfl
theorem fo8_1 : fieldOff Tryz.prog 8 1 = some 1 := by kernel_rfl
theorem fo8_2 : fieldOff Tryz.prog 8 2 = some 2 := by kernel_rfl
theorem fo8_3 : fieldOff Tryz.prog 8 3 = some 3 := by kernel_rfl
theorem kd10 : kindT Tryz.prog 10 = some (false, 1) := by kernel_rfl
theorem kd102 : kindT Tryz.prog 102 = some (true, 2) := by kernel_rfl
theorem kd103 : kindT Tryz.prog 103 = some (true, 2) := by kernel_rfl
theorem kd11 : kindT Tryz.prog 11 = some (false, 1) := by kernel_rfl
theorem kd119 : kindT Tryz.prog 119 = some (false, 1) := by kernel_rfl
theorem kd12 : kindT Tryz.prog 12 = some (false, 1) := by kernel_rfl
theorem kd13 : kindT Tryz.prog 13 = some (true, 2) := by kernel_rfl
theorem kd139 : kindT Tryz.prog 139 = some (true, 2) := by kernel_rfl
theorem kd14 : kindT Tryz.prog 14 = some (true, 2) := by kernel_rfl
theorem kd140 : kindT Tryz.prog 140 = some (true, 2) := by kernel_rfl
theorem kd15 : kindT Tryz.prog 15 = some (false, 1) := by kernel_rfl
theorem kd150 : kindT Tryz.prog 150 = some (false, 1) := by kernel_rfl
theorem kd151 : kindT Tryz.prog 151 = some (false, 1) := by kernel_rfl
theorem kd154 : kindT Tryz.prog 154 = some (true, 4) := by kernel_rfl
theorem kd155 : kindT Tryz.prog 155 = some (true, 4) := by kernel_rfl
theorem kd157 : kindT Tryz.prog 157 = some (true, 0) := by kernel_rfl
theorem kd158 : kindT Tryz.prog 158 = some (true, 0) := by kernel_rfl
theorem kd159 : kindT Tryz.prog 159 = some (false, 1) := by kernel_rfl
theorem kd16 : kindT Tryz.prog 16 = some (false, 1) := by kernel_rfl
theorem kd160 : kindT Tryz.prog 160 = some (false, 1) := by kernel_rfl
theorem kd162 : kindT Tryz.prog 162 = some (false, 1) := by kernel_rfl
theorem kd163 : kindT Tryz.prog 163 = some (false, 1) := by kernel_rfl
theorem kd164 : kindT Tryz.prog 164 = some (false, 1) := by kernel_rfl
theorem kd165 : kindT Tryz.prog 165 = some (true, 11) := by kernel_rfl
theorem kd166 : kindT Tryz.prog 166 = some (true, 11) := by kernel_rfl
theorem kd17 : kindT Tryz.prog 17 = some (false, 1) := by kernel_rfl
theorem kd18 : kindT Tryz.prog 18 = some (true, 1) := by kernel_rfl
theorem kd19 : kindT Tryz.prog 19 = some (true, 1) := by kernel_rfl
theorem kd2 : kindT Tryz.prog 2 = some (false, 1) := by kernel_rfl
theorem kd21 : kindT Tryz.prog 21 = some (false, 1) := by kernel_rfl
theorem kd22 : kindT Tryz.prog 22 = some (false, 1) := by kernel_rfl
theorem kd23 : kindT Tryz.prog 23 = some (false, 1) := by kernel_rfl
theorem kd24 : kindT Tryz.prog 24 = some (true, 4) := by kernel_rfl
theorem kd25 : kindT Tryz.prog 25 = some (true, 4) := by kernel_rfl
theorem kd27 : kindT Tryz.prog 27 = some (false, 1) := by kernel_rfl
theorem kd3 : kindT Tryz.prog 3 = some (false, 1) := by kernel_rfl
theorem kd32 : kindT Tryz.prog 32 = some (false, 1) := by kernel_rfl
theorem kd35 : kindT Tryz.prog 35 = some (false, 1) := by kernel_rfl
theorem kd4 : kindT Tryz.prog 4 = some (false, 1) := by kernel_rfl
theorem kd46 : kindT Tryz.prog 46 = some (false, 1) := by kernel_rfl
theorem kd48 : kindT Tryz.prog 48 = some (false, 1) := by kernel_rfl
theorem kd5 : kindT Tryz.prog 5 = some (false, 1) := by kernel_rfl
theorem kd56 : kindT Tryz.prog 56 = some (false, 1) := by kernel_rfl
theorem kd6 : kindT Tryz.prog 6 = some (false, 1) := by kernel_rfl
theorem kd64 : kindT Tryz.prog 64 = some (true, 2) := by kernel_rfl
theorem kd65 : kindT Tryz.prog 65 = some (true, 2) := by kernel_rfl
theorem kd66 : kindT Tryz.prog 66 = some (false, 1) := by kernel_rfl
theorem kd68 : kindT Tryz.prog 68 = some (true, 5) := by kernel_rfl
theorem kd69 : kindT Tryz.prog 69 = some (true, 5) := by kernel_rfl
theorem kd7 : kindT Tryz.prog 7 = some (true, 4) := by kernel_rfl
theorem kd70 : kindT Tryz.prog 70 = some (false, 1) := by kernel_rfl
theorem kd71 : kindT Tryz.prog 71 = some (false, 1) := by kernel_rfl
theorem kd72 : kindT Tryz.prog 72 = some (true, 3) := by kernel_rfl
theorem kd73 : kindT Tryz.prog 73 = some (true, 3) := by kernel_rfl
theorem kd77 : kindT Tryz.prog 77 = some (false, 1) := by kernel_rfl
theorem kd8 : kindT Tryz.prog 8 = some (true, 4) := by kernel_rfl
theorem kd80 : kindT Tryz.prog 80 = some (true, 2) := by kernel_rfl
theorem kd81 : kindT Tryz.prog 81 = some (true, 2) := by kernel_rfl
theorem kd82 : kindT Tryz.prog 82 = some (false, 1) := by kernel_rfl
theorem kd83 : kindT Tryz.prog 83 = some (true, 8) := by kernel_rfl
theorem kd84 : kindT Tryz.prog 84 = some (true, 8) := by kernel_rfl
theorem kd88 : kindT Tryz.prog 88 = some (true, 2) := by kernel_rfl
theorem kd89 : kindT Tryz.prog 89 = some (true, 2) := by kernel_rfl
theorem kd9 : kindT Tryz.prog 9 = some (false, 1) := by kernel_rfl
theorem nm10 : (Tryz.f10.name == "runtime.NumGoroutine") = false := by kernel_rfl
theorem nm100 : (Tryz.f100.name == "runtime.NumGoroutine") = false := by kernel_rfl
theorem nm101 : (Tryz.f101.name == "runtime.NumGoroutine") = false := by kernel_rfl
theorem nm102 : (Tryz.f102.name == "runtime.NumGoroutine") = false := by kernel_rfl
theorem nm103 : (Tryz.f103.name == "runtime.NumGoroutine") = false := by kernel_rfl
theorem nm104 : (Tryz.f104.name == "runtime.NumGoroutine") = false := by kernel_rfl
theorem nm105 : (Tryz.f105.name == "runtime.NumGoroutine") = false := by kernel_rfl
theorem nm106 : (Tryz.f106.name == "runtime.NumGoroutine") = false := by kernel_rfl
theorem nm107 : (Tryz.f107.name == "runtime.NumGoroutine") = false := by kernel_rfl
theorem nm108 : (Tryz.f108.name == "runtime.NumGoroutine") = false := by kernel_rfl
theorem nm109 : (Tryz.f109.name == "runtime.NumGoroutine") = false := by kernel_rfl
theorem nm11 : (Tryz.f11.name == "runtime.NumGoroutine") = false := by kernel_rfl
theorem nm110 : (Tryz.f110.name == "runtime.NumGoroutine") = false := by kernel_rfl
theorem nm111 : (Tryz.f111.name == "runtime.NumGoroutine") = false := by kernel_rfl
theorem nm112 : (Tryz.f112.name == "runtime.NumGoroutine") = false := by kernel_rfl
theorem nm113 : (Tryz.f113.name == "runtime.NumGoroutine") = false := by kernel_rfl
theorem nm114 : (Tryz.f114.name == "runtime.NumGoroutine") = false := by kernel_rfl
theorem nm115 : (Tryz.f115.name == "runtime.NumGoroutine") = false := by kernel_rfl
theorem nm116 : (Tryz.f116.name == "runtime.NumGoroutine") = false := by kernel_rfl
theorem nm117 : (Tryz.f117.name == "runtime.NumGoroutine") = false := by kernel_rfl
theorem nm118 : (Tryz.f118.name == "runtime.NumGoroutine") = false := by kernel_rfl
theorem nm119 : (Tryz.f119.name == "runtime.NumGoroutine") = false := by kernel_rfl
theorem nm12 : (Tryz.f12.name == "runtime.NumGoroutine") = false := by kernel_rfl
theorem nm120 : (Tryz.f120.name == "runtime.NumGoroutine") = false := by kernel_rfl
theorem nm121 : (Tryz.f121.name == "runtime.NumGoroutine") = false := by kernel_rfl
theorem nm122 : (Tryz.f122.name == "runtime.NumGoroutine") = false := by kernel_rfl
theorem nm123 : (Tryz.f123.name == "runtime.NumGoroutine") = false := by kernel_rfl
theorem nm124 : (Tryz.f124.name == "runtime.NumGoroutine") = false := by kernel_rfl
theorem nm125 : (Tryz.f125.name == "runtime.NumGoroutine") = false := by kernel_rfl
theorem nm126 : (Tryz.f126.name == "runtime.NumGoroutine") = false := by kernel_rfl
theorem nm127 : (Tryz.f127.name == "runtime.NumGoroutine") = false := by kernel_rfl
theorem nm128 : (Tryz.f128.name == "runtime.NumGoroutine") = false := by kernel_rfl
theorem nm129 : (Tryz.f129.name == "runtime.NumGoroutine") = false := by kernel_rfl
theorem nm13 : (Tryz.f13.name == "runtime.NumGoroutine") = false := by kernel_rfl
theorem nm130 : (Tryz.f130.name == "runtime.NumGoroutine") = false := by kernel_rfl
theorem nm131 : (Tryz.f131.name == "runtime.NumGoroutine") = false := by kernel_rfl
theorem nm132 : (Tryz.f132.name == "runtime.NumGoroutine") = false := by kernel_rfl
theorem nm133 : (Tryz.f133.name == "runtime.NumGoroutine") = false := by kernel_rfl
theorem nm134 : (Tryz.f134.name == "runtime.NumGoroutine") = false := by kernel_rfl
theorem nm135 : (Tryz.f135.name == "runtime.NumGoroutine") = false := by kernel_rfl
theorem nm136 : (Tryz.f136.name == "runtime.NumGoroutine") = false := by kernel_rfl
theorem nm137 : (Tryz.f137.name == "runtime.NumGoroutine") = false := by kernel_rfl
theorem nm138 : (Tryz.f138.name == "runtime.NumGoroutine") = false := by kernel_rfl
theorem nm139 : (Tryz.f139.name == "runtime.NumGoroutine") = false := by kernel_rfl
theorem nm14 : (Tryz.f14.name == "runtime.NumGoroutine") = false := by kernel_rfl
theorem nm140 : (Tryz.f140.name == "runtime.NumGoroutine") = false := by kernel_rfl
theorem nm141 : (Tryz.f141.name == "runtime.NumGoroutine") = false := by kernel_rfl
theorem nm142 : (Tryz.f142.name == "runtime.NumGoroutine") = false := by kernel_rfl
theorem nm143 : (Tryz.f143.name == "runtime.NumGoroutine") = false := by kernel_rfl
theorem nm144 : (Tryz.f144.name == "runtime.NumGoroutine") = false := by kernel_rfl
theorem nm145 : (Tryz.f145.name == "runtime.NumGoroutine") = false := by kernel_rfl
theorem nm147 : (Tryz.f147.name == "runtime.NumGoroutine") = false := by kernel_rfl
theorem nm148 : (Tryz.f148.name == "runtime.NumGoroutine") = false := by kernel_rfl
theorem nm149 : (Tryz.f149.name == "runtime.NumGoroutine") = false := by kernel_rfl
theorem nm15 : (Tryz.f15.name == "runtime.NumGoroutine") = false := by kernel_rfl
theorem nm150 : (Tryz.f150.name == "runtime.NumGoroutine") = false := by kernel_rfl
theorem nm151 : (Tryz.f151.name == "runtime.NumGoroutine") = false := by kernel_rfl
theorem nm16 : (Tryz.f16.name == "runtime.NumGoroutine") = false := by kernel_rfl
theorem nm17 : (Tryz.f17.name == "runtime.NumGoroutine") = false := by kernel_rfl
theorem nm173 : (Tryz.f173.name == "runtime.NumGoroutine") = false := by kernel_rfl
theorem nm174 : (Tryz.f174.name == "runtime.NumGoroutine") = false := by kernel_rfl
theorem nm18 : (Tryz.f18.name == "runtime.NumGoroutine") = false := by kernel_rfl
theorem nm19 : (Tryz.f19.name == "runtime.NumGoroutine") = false := by kernel_rfl
theorem nm20 : (Tryz.f20.name == "runtime.NumGoroutine") = false := by kernel_rfl
theorem nm21 : (Tryz.f21.name == "runtime.NumGoroutine") = false := by kernel_rfl
theorem nm22 : (Tryz.f22.name == "runtime.NumGoroutine") = false := by kernel_rfl
theorem nm23 : (Tryz.f23.name == "runtime.NumGoroutine") = false := by kernel_rfl
theorem nm24 : (Tryz.f24.name == "runtime.NumGoroutine") = false := by kernel_rfl
theorem nm25 : (Tryz.f25.name == "runtime.NumGoroutine") = false := by kernel_rfl
theorem nm26 : (Tryz.f26.name == "runtime.NumGoroutine") = false := by kernel_rfl
theorem nm27 : (Tryz.f27.name == "runtime.NumGoroutine") = false := by kernel_rfl
theorem nm28 : (Tryz.f28.name == "runtime.NumGoroutine") = false := by kernel_rfl
theorem nm29 : (Tryz.f29.name == "runtime.NumGoroutine") = false := by kernel_rfl
theorem nm3 : (Tryz.f3.name == "runtime.NumGoroutine") = false := by kernel_rfl
theorem nm30 : (Tryz.f30.name == "runtime.NumGoroutine") = false := by kernel_rfl
theorem nm31 : (Tryz.f31.name == "runtime.NumGoroutine") = false := by kernel_rfl
theorem nm32 : (Tryz.f32.name == "runtime.NumGoroutine") = false := by kernel_rfl
theorem nm33 : (Tryz.f33.name == "runtime.NumGoroutine") = false := by kernel_rfl
theorem nm34 : (Tryz.f34.name == "runtime.NumGoroutine") = false := by kernel_rfl
theorem nm35 : (Tryz.f35.name == "runtime.NumGoroutine") = false := by kernel_rfl
theorem nm36 : (Tryz.f36.name == "runtime.NumGoroutine") = false := by kernel_rfl
theorem nm37 : (Tryz.f37.name == "runtime.NumGoroutine") = false := by kernel_rfl
theorem nm38 : (Tryz.f38.name == "runtime.NumGoroutine") = false := by kernel_rfl
theorem nm39 : (Tryz.f39.name == "runtime.NumGoroutine") = false := by kernel_rfl
theorem nm4 : (Tryz.f4.name == "runtime.NumGoroutine") = false := by kernel_rfl
theorem nm40 : (Tryz.f40.name == "runtime.NumGoroutine") = false := by kernel_rfl
theorem nm41 : (Tryz.f41.name == "runtime.NumGoroutine") = false := by kernel_rfl
theorem nm42 : (Tryz.f42.name == "runtime.NumGoroutine") = false := by kernel_rfl
theorem nm43 : (Tryz.f43.name == "runtime.NumGoroutine") = false := by kernel_rfl
theorem nm44 : (Tryz.f44.name == "runtime.NumGoroutine") = false := by kernel_rfl
theorem nm45 : (Tryz.f45.name == "runtime.NumGoroutine") = false := by kernel_rfl
theorem nm46 : (Tryz.f46.name == "runtime.NumGoroutine") = false := by kernel_rfl
theorem nm47 : (Tryz.f47.name == "runtime.NumGoroutine") = false := by kernel_rfl
theorem nm48 : (Tryz.f48.name == "runtime.NumGoroutine") = false := by kernel_rfl
theorem nm49 : (Tryz.f49.name == "runtime.NumGoroutine") = false := by kernel_rfl
theorem nm5 : (Tryz.f5.name == "runtime.NumGoroutine") = false := by kernel_rfl
theorem nm50 : (Tryz.f50.name == "runtime.NumGoroutine") = false := by kernel_rfl
theorem nm51 : (Tryz.f51.name == "runtime.NumGoroutine") = false := by kernel_rfl
theorem nm52 : (Tryz.f52.name == "runtime.NumGoroutine") = false := by kernel_rfl
theorem nm53 : (Tryz.f53.name == "runtime.NumGoroutine") = false := by kernel_rfl
theorem nm54 : (Tryz.f54.name == "runtime.NumGoroutine") = false := by kernel_rfl
theorem nm55 : (Tryz.f55.name == "runtime.NumGoroutine") = false := by kernel_rfl
theorem nm56 : (Tryz.f56.name == "runtime.NumGoroutine") = false := by kernel_rfl
theorem nm57 : (Tryz.f57.name == "runtime.NumGoroutine") = false := by kernel_rfl
theorem nm58 : (Tryz.f58.name == "runtime.NumGoroutine") = false := by kernel_rfl
theorem nm59 : (Tryz.f59.name == "runtime.NumGoroutine") = false := by kernel_rfl
theorem nm6 : (Tryz.f6.name == "runtime.NumGoroutine") = false := by kernel_rfl
theorem nm60 : (Tryz.f60.name == "runtime.NumGoroutine") = false := by kernel_rfl
theorem nm61 : (Tryz.f61.name == "runtime.NumGoroutine") = false := by kernel_rfl
theorem nm62 : (Tryz.f62.name == "runtime.NumGoroutine") = false := by kernel_rfl
theorem nm63 : (Tryz.f63.name == "runtime.NumGoroutine") = false := by kernel_rfl
theorem nm64 : (Tryz.f64.name == "runtime.NumGoroutine") = false := by kernel_rfl
theorem nm65 : (Tryz.f65.name == "runtime.NumGoroutine") = false := by kernel_rfl
theorem nm66 : (Tryz.f66.name == "runtime.NumGoroutine") = false := by kernel_rfl
theorem nm67 : (Tryz.f67.name == "runtime.NumGoroutine") = false := by kernel_rfl
theorem nm68 : (Tryz.f68.name == "runtime.NumGoroutine") = false := by kernel_rfl
theorem nm69 : (Tryz.f69.name == "runtime.NumGoroutine") = false := by kernel_rfl
theorem nm7 : (Tryz.f7.name == "runtime.NumGoroutine") = false := by kernel_rfl
theorem nm70 : (Tryz.f70.name == "runtime.NumGoroutine") = false := by kernel_rfl
theorem nm71 : (Tryz.f71.name == "runtime.NumGoroutine") = false := by kernel_rfl
theorem nm72 : (Tryz.f72.name == "runtime.NumGoroutine") = false := by kernel_rfl
theorem nm73 : (Tryz.f73.name == "runtime.NumGoroutine") = false := by kernel_rfl
theorem nm74 : (Tryz.f74.name == "runtime.NumGoroutine") = false := by kernel_rfl
theorem nm75 : (Tryz.f75.name == "runtime.NumGoroutine") = false := by kernel_rfl
theorem nm76 : (Tryz.f76.name == "runtime.NumGoroutine") = false := by kernel_rfl
theorem nm77 : (Tryz.f77.name == "runtime.NumGoroutine") = false := by kernel_rfl
theorem nm78 : (Tryz.f78.name == "runtime.NumGoroutine") = false := by kernel_rfl
theorem nm79 : (Tryz.f79.name == "runtime.NumGoroutine") = false := by kernel_rfl
theorem nm8 : (Tryz.f8.name == "runtime.NumGoroutine") = false := by kernel_rfl
theorem nm80 : (Tryz.f80.name == "runtime.NumGoroutine") = false := by kernel_rfl
theorem nm81 : (Tryz.f81.name == "runtime.NumGoroutine") = false := by kernel_rfl
theorem nm82 : (Tryz.f82.name == "runtime.NumGoroutine") = false := by kernel_rfl
theorem nm83 : (Tryz.f83.name == "runtime.NumGoroutine") = false := by kernel_rfl
theorem nm84 : (Tryz.f84.name == "runtime.NumGoroutine") = false := by kernel_rfl
theorem nm85 : (Tryz.f85.name == "runtime.NumGoroutine") = false := by kernel_rfl
theorem nm86 : (Tryz.f86.name == "runtime.NumGoroutine") = false := by kernel_rfl
theorem nm87 : (Tryz.f87.name == "runtime.NumGoroutine") = false := by kernel_rfl
theorem nm88 : (Tryz.f88.name == "runtime.NumGoroutine") = false := by kernel_rfl
theorem nm89 : (Tryz.f89.name == "runtime.NumGoroutine") = false := by kernel_rfl
theorem nm9 : (Tryz.f9.name == "runtime.NumGoroutine") = false := by kernel_rfl
theorem nm90 : (Tryz.f90.name == "runtime.NumGoroutine") = false := by kernel_rfl
theorem nm91 : (Tryz.f91.name == "runtime.NumGoroutine") = false := by kernel_rfl
theorem nm92 : (Tryz.f92.name == "runtime.NumGoroutine") = false := by kernel_rfl
theorem nm93 : (Tryz.f93.name == "runtime.NumGoroutine") = false := by kernel_rfl
theorem nm94 : (Tryz.f94.name == "runtime.NumGoroutine") = false := by kernel_rfl
theorem nm95 : (Tryz.f95.name == "runtime.NumGoroutine") = false := by kernel_rfl
theorem nm96 : (Tryz.f96.name == "runtime.NumGoroutine") = false := by kernel_rfl
theorem nm97 : (Tryz.f97.name == "runtime.NumGoroutine") = false := by kernel_rfl
theorem nm98 : (Tryz.f98.name == "runtime.NumGoroutine") = false := by kernel_rfl
theorem nm99 : (Tryz.f99.name == "runtime.NumGoroutine") = false := by kernel_rfl
theorem pl102 : structPl Tryz.prog 102 = some [(0, 1), (1, 1)] := by kernel_rfl
theorem pl103 : structPl Tryz.prog 103 = some [(0, 1), (1, 1)] := by kernel_rfl
theorem pl13 : structPl Tryz.prog 13 = some [(0, 1), (1, 1)] := by kernel_rfl
theorem pl139 : structPl Tryz.prog 139 = some [(0, 1), (1, 1)] := by kernel_rfl
theorem pl14 : structPl Tryz.prog 14 = some [(0, 1), (1, 1)] := by kernel_rfl
theorem pl140 : structPl Tryz.prog 140 = some [(0, 1), (1, 1)] := by kernel_rfl
theorem pl154 : structPl Tryz.prog 154 = some [(0, 1), (1, 1), (2, 1), (3, 1)] := by kernel_rfl
theorem pl155 : structPl Tryz.prog 155 = some [(0, 1), (1, 1), (2, 1), (3, 1)] := by kernel_rfl
theorem pl157 : structPl Tryz.prog 157 = some [(0, 0)] := by kernel_rfl
theorem pl158 : structPl Tryz.prog 158 = some [(0, 0)] := by kernel_rfl
theorem pl165 : structPl Tryz.prog 165 = some [(0, 1), (1, 1), (2, 1), (3, 1), (4, 1), (5, 1), (6, 1), (7, 1), (8, 1), (9, 1), (10, 1)] := by kernel_rfl
theorem pl166 : structPl Tryz.prog 166 = some [(0, 1), (1, 1), (2, 1), (3, 1), (4, 1), (5, 1), (6, 1), (7, 1), (8, 1), (9, 1), (10, 1)] := by kernel_rfl
theorem pl18 : structPl Tryz.prog 18 = some [(0, 1)] := by kernel_rfl
theorem pl19 : structPl Tryz.prog 19 = some [(0, 1)] := by kernel_rfl
theorem pl24 : structPl Tryz.prog 24 = some [(0, 1), (1, 1), (2, 1), (3, 1)] := by kernel_rfl
theorem pl25 : structPl Tryz.prog 25 = some [(0, 1), (1, 1), (2, 1), (3, 1)] := by kernel_rfl
theorem pl64 : structPl Tryz.prog 64 = some [(0, 1), (1, 1)] := by kernel_rfl
theorem pl65 : structPl Tryz.prog 65 = some [(0, 1), (1, 1)] := by kernel_rfl
theorem pl68 : structPl Tryz.prog 68 = some [(0, 1), (1, 1), (2, 1), (3, 1), (4, 1)] := by kernel_rfl
theorem pl69 : structPl Tryz.prog 69 = some [(0, 1), (1, 1), (2, 1), (3, 1), (4, 1)] := by kernel_rfl
theorem pl7 : structPl Tryz.prog 7 = some [(0, 1), (1, 1), (2, 1), (3, 1)] := by kernel_rfl
theorem pl72 : structPl Tryz.prog 72 = some [(0, 1), (1, 1), (2, 1)] := by kernel_rfl
theorem pl73 : structPl Tryz.prog 73 = some [(0, 1), (1, 1), (2, 1)] := by kernel_rfl
theorem pl8 : structPl Tryz.prog 8 = some [(0, 1), (1, 1), (2, 1), (3, 1)] := by kernel_rfl
theorem pl80 : structPl Tryz.prog 80 = some [(0, 1), (1, 1)] := by kernel_rfl
theorem pl81 : structPl Tryz.prog 81 = some [(0, 1), (1, 1)] := by kernel_rfl
theorem pl83 : structPl Tryz.prog 83 = some [(0, 1), (1, 1), (2, 1), (3, 1), (4, 4)] := by kernel_rfl
theorem pl84 : structPl Tryz.prog 84 = some [(0, 1), (1, 1), (2, 1), (3, 1), (4, 4)] := by kernel_rfl
theorem pl88 : structPl Tryz.prog 88 = some [(0, 1), (1, 1)] := by kernel_rfl
theorem pl89 : structPl Tryz.prog 89 = some [(0, 1), (1, 1)] := by kernel_rfl
theorem sl22 : slElem Tryz.prog 22 = some (5, 1, 1) := by kernel_rfl
theorem sl23 : slElem Tryz.prog 23 = some (25, 4, 56) := by kernel_rfl
theorem sl27 : slElem Tryz.prog 27 = some (9, 1, 16) := by kernel_rfl
theorem sl32 : slElem Tryz.prog 32 = some (3, 1, 8) := by kernel_rfl
theorem sl35 : slElem Tryz.prog 35 = some (32, 1, 24) := by kernel_rfl
theorem sl48 : slElem Tryz.prog 48 = some (73, 3, 64) := by kernel_rfl
theorem sl70 : slElem Tryz.prog 70 = some (103, 2, 32) := by kernel_rfl
theorem sl71 : slElem Tryz.prog 71 = some (84, 8, 120) := by kernel_rfl
theorem sl77 : slElem Tryz.prog 77 = some (81, 2, 16) := by kernel_rfl
theorem sl82 : slElem Tryz.prog 82 = some (89, 2, 32) := by kernel_rfl
theorem z10 : zeroT Tryz.prog 10 = some (.string ⟨#[]⟩) := by kernel_rfl
theorem z102 : zeroT Tryz.prog 102 = some (.agg #[(.string ⟨#[]⟩), (.string ⟨#[]⟩)]) := by kernel_rfl
theorem z103 : zeroT Tryz.prog 103 = some (.agg #[(.string ⟨#[]⟩), (.string ⟨#[]⟩)]) := by kernel_rfl
theorem z11 : zeroT Tryz.prog 11 = some (.string ⟨#[]⟩) := by kernel_rfl
theorem z119 : zeroT Tryz.prog 119 = some (.pointer none) := by kernel_rfl
theorem z12 : zeroT Tryz.prog 12 = some (.int .u64 0) := by kernel_rfl
theorem z13 : zeroT Tryz.prog 13 = some (.agg #[(.string ⟨#[]⟩), (.int .u64 0)]) := by kernel_rfl
theorem z139 : zeroT Tryz.prog 139 = some (.agg #[(.slice none 0 0), (.int .i64 0)]) := by kernel_rfl
theorem z14 : zeroT Tryz.prog 14 = some (.agg #[(.string ⟨#[]⟩), (.int .u64 0)]) := by kernel_rfl
theorem z140 : zeroT Tryz.prog 140 = some (.agg #[(.slice none 0 0), (.int .i64 0)]) := by kernel_rfl
theorem z15 : zeroT Tryz.prog 15 = some (.pointer none) := by kernel_rfl
theorem z150 : zeroT Tryz.prog 150 = some (.int .u64 0) := by kernel_rfl
theorem z151 : zeroT Tryz.prog 151 = some (.int .u32 0) := by kernel_rfl
theorem z154 : zeroT Tryz.prog 154 = some (.agg #[(.pointer none), (.pointer none), (.pointer none), (.string ⟨#[]⟩)]) := by kernel_rfl
theorem z155 : zeroT Tryz.prog 155 = some (.agg #[(.pointer none), (.pointer none), (.pointer none), (.string ⟨#[]⟩)]) := by kernel_rfl
theorem z157 : zeroT Tryz.prog 157 = some (.agg #[]) := by kernel_rfl
theorem z158 : zeroT Tryz.prog 158 = some (.agg #[]) := by kernel_rfl
theorem z159 : zeroT Tryz.prog 159 = some (.int .u8 0) := by kernel_rfl
theorem z16 : zeroT Tryz.prog 16 = some (.pointer none) := by kernel_rfl
theorem z160 : zeroT Tryz.prog 160 = some (.int .u8 0) := by kernel_rfl
theorem z162 : zeroT Tryz.prog 162 = some (.pointer none) := by kernel_rfl
theorem z163 : zeroT Tryz.prog 163 = some (.int .i32 0) := by kernel_rfl
theorem z164 : zeroT Tryz.prog 164 = some (.int .i32 0) := by kernel_rfl
theorem z17 : zeroT Tryz.prog 17 = some (.pointer none) := by kernel_rfl
theorem z18 : zeroT Tryz.prog 18 = some (.agg #[(.pointer none)]) := by kernel_rfl
theorem z19 : zeroT Tryz.prog 19 = some (.agg #[(.pointer none)]) := by kernel_rfl
theorem z2 : zeroT Tryz.prog 2 = some (.int .i64 0) := by kernel_rfl
theorem z21 : zeroT Tryz.prog 21 = some (.int .i32 0) := by kernel_rfl
theorem z22 : zeroT Tryz.prog 22 = some (.slice none 0 0) := by kernel_rfl
theorem z23 : zeroT Tryz.prog 23 = some (.slice none 0 0) := by kernel_rfl
theorem z24 : zeroT Tryz.prog 24 = some (.agg #[(.int .i64 0), (.int .i64 0), (.string ⟨#[]⟩), (.slice none 0 0)]) := by kernel_rfl
theorem z25 : zeroT Tryz.prog 25 = some (.agg #[(.int .i64 0), (.int .i64 0), (.string ⟨#[]⟩), (.slice none 0 0)]) := by kernel_rfl
theorem z27 : zeroT Tryz.prog 27 = some (.slice none 0 0) := by kernel_rfl
theorem z3 : zeroT Tryz.prog 3 = some (.int .i64 0) := by kernel_rfl
theorem z32 : zeroT Tryz.prog 32 = some (.slice none 0 0) := by kernel_rfl
theorem z35 : zeroT Tryz.prog 35 = some (.slice none 0 0) := by kernel_rfl
theorem z4 : zeroT Tryz.prog 4 = some (.bool false) := by kernel_rfl
theorem z46 : zeroT Tryz.prog 46 = some (.pointer none) := by kernel_rfl
theorem z48 : zeroT Tryz.prog 48 = some (.slice none 0 0) := by kernel_rfl
theorem z5 : zeroT Tryz.prog 5 = some (.int .u8 0) := by kernel_rfl
theorem z56 : zeroT Tryz.prog 56 = some (.pointer none) := by kernel_rfl
theorem z6 : zeroT Tryz.prog 6 = some (.int .u8 0) := by kernel_rfl
theorem z64 : zeroT Tryz.prog 64 = some (.agg #[(.slice none 0 0), (.int .i64 0)]) := by kernel_rfl
theorem z65 : zeroT Tryz.prog 65 = some (.agg #[(.slice none 0 0), (.int .i64 0)]) := by kernel_rfl
theorem z66 : zeroT Tryz.prog 66 = some (.pointer none) := by kernel_rfl
theorem z68 : zeroT Tryz.prog 68 = some (.agg #[(.pointer none), (.slice none 0 0), (.int .i64 0), (.int .i64 0), (.bool false)]) := by kernel_rfl
theorem z69 : zeroT Tryz.prog 69 = some (.agg #[(.pointer none), (.slice none 0 0), (.int .i64 0), (.int .i64 0), (.bool false)]) := by kernel_rfl
theorem z7 : zeroT Tryz.prog 7 = some (.agg #[(.int .i64 0), (.int .i64 0), (.bool false), (.int .u8 0)]) := by kernel_rfl
theorem z70 : zeroT Tryz.prog 70 = some (.slice none 0 0) := by kernel_rfl
theorem z71 : zeroT Tryz.prog 71 = some (.slice none 0 0) := by kernel_rfl
theorem z72 : zeroT Tryz.prog 72 = some (.agg #[(.string ⟨#[]⟩), (.slice none 0 0), (.slice none 0 0)]) := by kernel_rfl
theorem z73 : zeroT Tryz.prog 73 = some (.agg #[(.string ⟨#[]⟩), (.slice none 0 0), (.slice none 0 0)]) := by kernel_rfl
theorem z77 : zeroT Tryz.prog 77 = some (.slice none 0 0) := by kernel_rfl
theorem z8 : zeroT Tryz.prog 8 = some (.agg #[(.int .i64 0), (.int .i64 0), (.bool false), (.int .u8 0)]) := by kernel_rfl
theorem z80 : zeroT Tryz.prog 80 = some (.agg #[(.int .i64 0), (.int .i64 0)]) := by kernel_rfl
theorem z81 : zeroT Tryz.prog 81 = some (.agg #[(.int .i64 0), (.int .i64 0)]) := by kernel_rfl
theorem z82 : zeroT Tryz.prog 82 = some (.slice none 0 0) := by kernel_rfl
theorem z83 : zeroT Tryz.prog 83 = some (.agg #[(.int .i64 0), (.string ⟨#[]⟩), (.slice none 0 0), (.string ⟨#[]⟩), (.int .i64 0), (.int .i64 0), (.string ⟨#[]⟩), (.slice none 0 0)]) := by kernel_rfl
theorem z84 : zeroT Tryz.prog 84 = some (.agg #[(.int .i64 0), (.string ⟨#[]⟩), (.slice none 0 0), (.string ⟨#[]⟩), (.int .i64 0), (.int .i64 0), (.string ⟨#[]⟩), (.slice none 0 0)]) := by kernel_rfl
theorem z88 : zeroT Tryz.prog 88 = some (.agg #[(.string ⟨#[]⟩), (.string ⟨#[]⟩)]) := by kernel_rfl
theorem z89 : zeroT Tryz.prog 89 = some (.agg #[(.string ⟨#[]⟩), (.string ⟨#[]⟩)]) := by kernel_rfl
theorem z9 : zeroT Tryz.prog 9 = some (.string ⟨#[]⟩) := by kernel_rfl
end Go.Proofs.YteieleejhbljfaaGreat
