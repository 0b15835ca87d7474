/-
  The functions that the closed runs come to are those of the program, and stand-ins for five of them.
-/
import Derived.Test.YthbmgkbfmddhnaaGreatDoorProg
import Derived.Test.YthbmgkbfmddhnaaGreatDoorEvPart2
import Derived.KernelRfl
set_option linter.all false
namespace Go.EvNil
open Go Go.Ev Go.Proofs
set_option maxRecDepth 100000
theorem st4 : statFn Tryz.prog Tryz.f4 = true := by kernel_rfl
theorem st6 : statFn Tryz.prog Tryz.f6 = true := by kernel_rfl
theorem st8 : statFn Tryz.prog Tryz.f8 = true := by kernel_rfl
theorem st9 : statFn Tryz.prog Tryz.f9 = true := by kernel_rfl
theorem st13 : statFn Tryz.prog Tryz.f13 = true := by kernel_rfl
theorem st14 : statFn Tryz.prog Tryz.f14 = true := by kernel_rfl
theorem st15 : statFn Tryz.prog Tryz.f15 = true := by kernel_rfl
theorem st16 : statFn Tryz.prog Tryz.f16 = true := by kernel_rfl
theorem st17 : statFn Tryz.prog Tryz.f17 = true := by kernel_rfl
theorem st18 : statFn Tryz.prog Tryz.f18 = true := by kernel_rfl
theorem st19 : statFn Tryz.prog Tryz.f19 = true := by kernel_rfl
theorem st20 : statFn Tryz.prog Tryz.f20 = true := by kernel_rfl
theorem st21 : statFn Tryz.prog Tryz.f21 = true := by kernel_rfl
theorem st25 : statFn Tryz.prog Tryz.f25 = true := by kernel_rfl
theorem st26 : statFn Tryz.prog Tryz.f26 = true := by kernel_rfl
theorem st27 : statFn Tryz.prog Tryz.f27 = true := by kernel_rfl
theorem st28 : statFn Tryz.prog Tryz.f28 = true := by kernel_rfl
theorem st29 : statFn Tryz.prog Tryz.f29 = true := by kernel_rfl
theorem st30 : statFn Tryz.prog Tryz.f30 = true := by kernel_rfl
theorem st31 : statFn Tryz.prog Tryz.f31 = true := by kernel_rfl
theorem st33 : statFn Tryz.prog Tryz.f33 = true := by kernel_rfl
theorem st34 : statFn Tryz.prog Tryz.f34 = true := by kernel_rfl
theorem st35 : statFn Tryz.prog Tryz.f35 = true := by kernel_rfl
theorem st36 : statFn Tryz.prog Tryz.f36 = true := by kernel_rfl
theorem st37 : statFn Tryz.prog Tryz.f37 = true := by kernel_rfl
theorem st41 : statFn Tryz.prog Tryz.f41 = true := by kernel_rfl
theorem st42 : statFn Tryz.prog Tryz.f42 = true := by kernel_rfl
theorem st43 : statFn Tryz.prog Tryz.f43 = true := by kernel_rfl
theorem st44 : statFn Tryz.prog Tryz.f44 = true := by kernel_rfl
theorem st45 : statFn Tryz.prog Tryz.f45 = true := by kernel_rfl
theorem st46 : statFn Tryz.prog Tryz.f46 = true := by kernel_rfl
theorem st47 : statFn Tryz.prog Tryz.f47 = true := by kernel_rfl
theorem st48 : statFn Tryz.prog Tryz.f48 = true := by kernel_rfl
theorem st49 : statFn Tryz.prog Tryz.f49 = true := by kernel_rfl
theorem st53 : statFn Tryz.prog Tryz.f53 = true := by kernel_rfl
theorem st54 : statFn Tryz.prog Tryz.f54 = true := by kernel_rfl
theorem st55 : statFn Tryz.prog Tryz.f55 = true := by kernel_rfl
theorem st56 : statFn Tryz.prog Tryz.f56 = true := by kernel_rfl
theorem st58 : statFn Tryz.prog Tryz.f58 = true := by kernel_rfl
theorem st59 : statFn Tryz.prog Tryz.f59 = true := by kernel_rfl
theorem st60 : statFn Tryz.prog Tryz.f60 = true := by kernel_rfl
theorem st61 : statFn Tryz.prog Tryz.f61 = true := by kernel_rfl
theorem st62 : statFn Tryz.prog Tryz.f62 = true := by kernel_rfl
theorem st63 : statFn Tryz.prog Tryz.f63 = true := by kernel_rfl
theorem st64 : statFn Tryz.prog Tryz.f64 = true := by kernel_rfl
theorem st65 : statFn Tryz.prog Tryz.f65 = true := by kernel_rfl
theorem st70 : statFn Tryz.prog Tryz.f70 = true := by kernel_rfl
theorem st71 : statFn Tryz.prog Tryz.f71 = true := by kernel_rfl
theorem st72 : statFn Tryz.prog Tryz.f72 = true := by kernel_rfl
theorem st73 : statFn Tryz.prog Tryz.f73 = true := by kernel_rfl
theorem st74 : statFn Tryz.prog Tryz.f74 = true := by kernel_rfl
theorem st75 : statFn Tryz.prog Tryz.f75 = true := by kernel_rfl
theorem st76 : statFn Tryz.prog Tryz.f76 = true := by kernel_rfl
theorem st77 : statFn Tryz.prog Tryz.f77 = true := by kernel_rfl
theorem st78 : statFn Tryz.prog Tryz.f78 = true := by kernel_rfl
theorem st79 : statFn Tryz.prog Tryz.f79 = true := by kernel_rfl
theorem st80 : statFn Tryz.prog Tryz.f80 = true := by kernel_rfl
theorem st81 : statFn Tryz.prog Tryz.f81 = true := by kernel_rfl
theorem st82 : statFn Tryz.prog Tryz.f82 = true := by kernel_rfl
theorem st83 : statFn Tryz.prog Tryz.f83 = true := by kernel_rfl
theorem st84 : statFn Tryz.prog Tryz.f84 = true := by kernel_rfl
theorem st85 : statFn Tryz.prog Tryz.f85 = true := by kernel_rfl
theorem st86 : statFn Tryz.prog Tryz.f86 = true := by kernel_rfl
theorem st87 : statFn Tryz.prog Tryz.f87 = true := by kernel_rfl
theorem st88 : statFn Tryz.prog Tryz.f88 = true := by kernel_rfl
theorem st89 : statFn Tryz.prog Tryz.f89 = true := by kernel_rfl
theorem st90 : statFn Tryz.prog Tryz.f90 = true := by kernel_rfl
theorem st91 : statFn Tryz.prog Tryz.f91 = true := by kernel_rfl
theorem st92 : statFn Tryz.prog Tryz.f92 = true := by kernel_rfl
theorem st93 : statFn Tryz.prog Tryz.f93 = true := by kernel_rfl
theorem st94 : statFn Tryz.prog Tryz.f94 = true := by kernel_rfl
theorem st98 : statFn Tryz.prog Tryz.f98 = true := by kernel_rfl
theorem st99 : statFn Tryz.prog Tryz.f99 = true := by kernel_rfl
theorem st101 : statFn Tryz.prog Tryz.f101 = true := by kernel_rfl
theorem st104 : statFn Tryz.prog Tryz.f104 = true := by kernel_rfl
theorem st105 : statFn Tryz.prog Tryz.f105 = true := by kernel_rfl
theorem st106 : statFn Tryz.prog Tryz.f106 = true := by kernel_rfl
theorem st107 : statFn Tryz.prog Tryz.f107 = true := by kernel_rfl
theorem st108 : statFn Tryz.prog Tryz.f108 = true := by kernel_rfl
theorem st109 : statFn Tryz.prog Tryz.f109 = true := by kernel_rfl
theorem st110 : statFn Tryz.prog Tryz.f110 = true := by kernel_rfl
theorem st112 : statFn Tryz.prog Tryz.f112 = true := by kernel_rfl
theorem st113 : statFn Tryz.prog Tryz.f113 = true := by kernel_rfl
theorem st114 : statFn Tryz.prog Tryz.f114 = true := by kernel_rfl
theorem st115 : statFn Tryz.prog Tryz.f115 = true := by kernel_rfl
theorem st119 : statFn Tryz.prog Tryz.f119 = true := by kernel_rfl
theorem st120 : statFn Tryz.prog Tryz.f120 = true := by kernel_rfl
theorem st121 : statFn Tryz.prog Tryz.f121 = true := by kernel_rfl
theorem st122 : statFn Tryz.prog Tryz.f122 = true := by kernel_rfl
theorem st123 : statFn Tryz.prog Tryz.f123 = true := by kernel_rfl
theorem st124 : statFn Tryz.prog Tryz.f124 = true := by kernel_rfl
theorem st125 : statFn Tryz.prog Tryz.f125 = true := by kernel_rfl
theorem st126 : statFn Tryz.prog Tryz.f126 = true := by kernel_rfl
theorem st127 : statFn Tryz.prog Tryz.f127 = true := by kernel_rfl
theorem st128 : statFn Tryz.prog Tryz.f128 = true := by kernel_rfl
theorem st129 : statFn Tryz.prog Tryz.f129 = true := by kernel_rfl
theorem st130 : statFn Tryz.prog Tryz.f130 = true := by kernel_rfl
theorem st131 : statFn Tryz.prog Tryz.f131 = true := by kernel_rfl
theorem st132 : statFn Tryz.prog Tryz.f132 = true := by kernel_rfl
theorem st133 : statFn Tryz.prog Tryz.f133 = true := by kernel_rfl
theorem st134 : statFn Tryz.prog Tryz.f134 = true := by kernel_rfl
theorem st135 : statFn Tryz.prog Tryz.f135 = true := by kernel_rfl
theorem st136 : statFn Tryz.prog Tryz.f136 = true := by kernel_rfl
theorem st137 : statFn Tryz.prog Tryz.f137 = true := by kernel_rfl
theorem st138 : statFn Tryz.prog Tryz.f138 = true := by kernel_rfl
theorem st139 : statFn Tryz.prog Tryz.f139 = true := by kernel_rfl
theorem st140 : statFn Tryz.prog Tryz.f140 = true := by kernel_rfl
theorem st141 : statFn Tryz.prog Tryz.f141 = true := by kernel_rfl
theorem st142 : statFn Tryz.prog Tryz.f142 = true := by kernel_rfl
theorem st143 : statFn Tryz.prog Tryz.f143 = true := by kernel_rfl
theorem st145 : statFn Tryz.prog Tryz.f145 = true := by kernel_rfl
theorem st146 : statFn Tryz.prog Tryz.f146 = true := by kernel_rfl
theorem st147 : statFn Tryz.prog Tryz.f147 = true := by kernel_rfl
theorem st148 : statFn Tryz.prog Tryz.f148 = true := by kernel_rfl
theorem st149 : statFn Tryz.prog Tryz.f149 = true := by kernel_rfl
theorem st150 : statFn Tryz.prog Tryz.f150 = true := by kernel_rfl
theorem st151 : statFn Tryz.prog Tryz.f151 = true := by kernel_rfl
theorem st152 : statFn Tryz.prog Tryz.f152 = true := by kernel_rfl
theorem st153 : statFn Tryz.prog Tryz.f153 = true := by kernel_rfl
theorem st154 : statFn Tryz.prog Tryz.f154 = true := by kernel_rfl
theorem st155 : statFn Tryz.prog Tryz.f155 = true := by kernel_rfl
theorem st156 : statFn Tryz.prog Tryz.f156 = true := by kernel_rfl
theorem st157 : statFn Tryz.prog Tryz.f157 = true := by kernel_rfl
theorem st158 : statFn Tryz.prog Tryz.f158 = true := by kernel_rfl
theorem st159 : statFn Tryz.prog Tryz.f159 = true := by kernel_rfl
theorem st160 : statFn Tryz.prog Tryz.f160 = true := by kernel_rfl
theorem st162 : statFn Tryz.prog Tryz.f162 = true := by kernel_rfl
theorem st176 : statFn Tryz.prog Tryz.f176 = true := by kernel_rfl
theorem st177 : statFn Tryz.prog Tryz.f177 = true := by kernel_rfl
theorem st178 : statFn Tryz.prog Tryz.f178 = true := by kernel_rfl
theorem st179 : statFn Tryz.prog Tryz.f179 = true := by kernel_rfl
theorem st180 : statFn Tryz.prog Tryz.f180 = true := by kernel_rfl
theorem st181 : statFn Tryz.prog Tryz.f181 = true := by kernel_rfl
theorem st182 : statFn Tryz.prog Tryz.f182 = true := by kernel_rfl
theorem st183 : statFn Tryz.prog Tryz.f183 = true := by kernel_rfl
theorem st184 : statFn Tryz.prog Tryz.f184 = true := by kernel_rfl
theorem st185 : statFn Tryz.prog Tryz.f185 = true := by kernel_rfl
theorem st190 : statFn Tryz.prog Tryz.f190 = true := by kernel_rfl
theorem st191 : statFn Tryz.prog Tryz.f191 = true := by kernel_rfl
theorem st192 : statFn Tryz.prog Tryz.f192 = true := by kernel_rfl
theorem st193 : statFn Tryz.prog Tryz.f193 = true := by kernel_rfl
theorem st194 : statFn Tryz.prog Tryz.f194 = true := by kernel_rfl
theorem st195 : statFn Tryz.prog Tryz.f195 = true := by kernel_rfl
theorem st196 : statFn Tryz.prog Tryz.f196 = true := by kernel_rfl
theorem st197 : statFn Tryz.prog Tryz.f197 = true := by kernel_rfl
theorem st198 : statFn Tryz.prog Tryz.f198 = true := by kernel_rfl
theorem st199 : statFn Tryz.prog Tryz.f199 = true := by kernel_rfl
theorem st200 : statFn Tryz.prog Tryz.f200 = true := by kernel_rfl
theorem st201 : statFn Tryz.prog Tryz.f201 = true := by kernel_rfl
theorem st202 : statFn Tryz.prog Tryz.f202 = true := by kernel_rfl
theorem st204 : statFn Tryz.prog Tryz.f204 = true := by kernel_rfl
theorem st205 : statFn Tryz.prog Tryz.f205 = true := by kernel_rfl
theorem st206 : statFn Tryz.prog Tryz.f206 = true := by kernel_rfl
theorem st208 : statFn Tryz.prog Tryz.f208 = true := by kernel_rfl
theorem st209 : statFn Tryz.prog Tryz.f209 = true := by kernel_rfl
theorem st210 : statFn Tryz.prog Tryz.f210 = true := by kernel_rfl
theorem st211 : statFn Tryz.prog Tryz.f211 = true := by kernel_rfl
theorem st213 : statFn Tryz.prog Tryz.f213 = true := by kernel_rfl
theorem st214 : statFn Tryz.prog Tryz.f214 = true := by kernel_rfl
theorem st215 : statFn Tryz.prog Tryz.f215 = true := by kernel_rfl
theorem st216 : statFn Tryz.prog Tryz.f216 = true := by kernel_rfl
theorem st217 : statFn Tryz.prog Tryz.f217 = true := by kernel_rfl
theorem st218 : statFn Tryz.prog Tryz.f218 = true := by kernel_rfl
theorem st219 : statFn Tryz.prog Tryz.f219 = true := by kernel_rfl
theorem st220 : statFn Tryz.prog Tryz.f220 = true := by kernel_rfl
theorem st228 : statFn Tryz.prog Tryz.f228 = true := by kernel_rfl
theorem st229 : statFn Tryz.prog Tryz.f229 = true := by kernel_rfl
theorem st231 : statFn Tryz.prog Tryz.f231 = true := by kernel_rfl
theorem st264 : statFn Tryz.prog Tryz.f264 = true := by kernel_rfl
theorem st271 : statFn Tryz.prog Tryz.f271 = true := by kernel_rfl
theorem st272 : statFn Tryz.prog Tryz.f272 = true := by kernel_rfl
theorem st273 : statFn Tryz.prog Tryz.f273 = true := by kernel_rfl
theorem st284 : statFn Tryz.prog Tryz.f284 = true := by kernel_rfl
theorem st285 : statFn Tryz.prog Tryz.f285 = true := by kernel_rfl
theorem st286 : statFn Tryz.prog Tryz.f286 = true := by kernel_rfl
theorem st287 : statFn Tryz.prog Tryz.f287 = true := by kernel_rfl
theorem st288 : statFn Tryz.prog Tryz.f288 = true := by kernel_rfl
theorem st289 : statFn Tryz.prog Tryz.f289 = true := by kernel_rfl
theorem st290 : statFn Tryz.prog Tryz.f290 = true := by kernel_rfl
theorem st291 : statFn Tryz.prog Tryz.f291 = true := by kernel_rfl
theorem st292 : statFn Tryz.prog Tryz.f292 = true := by kernel_rfl
theorem st293 : statFn Tryz.prog Tryz.f293 = true := by kernel_rfl
theorem st294 : statFn Tryz.prog Tryz.f294 = true := by kernel_rfl
theorem st295 : statFn Tryz.prog Tryz.f295 = true := by kernel_rfl
theorem st298 : statFn Tryz.prog Tryz.f298 = true := by kernel_rfl
theorem st299 : statFn Tryz.prog Tryz.f299 = true := by kernel_rfl
theorem st300 : statFn Tryz.prog Tryz.f300 = true := by kernel_rfl
theorem st302 : statFn Tryz.prog Tryz.f302 = true := by kernel_rfl
theorem st303 : statFn Tryz.prog Tryz.f303 = true := by kernel_rfl
theorem st304 : statFn Tryz.prog Tryz.f304 = true := by kernel_rfl
theorem st305 : statFn Tryz.prog Tryz.f305 = true := by kernel_rfl
theorem st306 : statFn Tryz.prog Tryz.f306 = true := by kernel_rfl
theorem st307 : statFn Tryz.prog Tryz.f307 = true := by kernel_rfl
theorem st308 : statFn Tryz.prog Tryz.f308 = true := by kernel_rfl
theorem st335 : statFn Tryz.prog Tryz.f335 = true := by kernel_rfl
theorem st342 : statFn Tryz.prog Tryz.f342 = true := by kernel_rfl
theorem st343 : statFn Tryz.prog Tryz.f343 = true := by kernel_rfl
theorem st344 : statFn Tryz.prog Tryz.f344 = true := by kernel_rfl
theorem st345 : statFn Tryz.prog Tryz.f345 = true := by kernel_rfl
theorem st346 : statFn Tryz.prog Tryz.f346 = true := by kernel_rfl
theorem st347 : statFn Tryz.prog Tryz.f347 = true := by kernel_rfl
theorem st348 : statFn Tryz.prog Tryz.f348 = true := by kernel_rfl
theorem st349 : statFn Tryz.prog Tryz.f349 = true := by kernel_rfl
theorem st350 : statFn Tryz.prog Tryz.f350 = true := by kernel_rfl
theorem st354 : statFn Tryz.prog Tryz.f354 = true := by kernel_rfl
theorem st357 : statFn Tryz.prog Tryz.f357 = true := by kernel_rfl
theorem st358 : statFn Tryz.prog Tryz.f358 = true := by kernel_rfl
theorem st359 : statFn Tryz.prog Tryz.f359 = true := by kernel_rfl
theorem st360 : statFn Tryz.prog Tryz.f360 = true := by kernel_rfl
theorem st361 : statFn Tryz.prog Tryz.f361 = true := by kernel_rfl
theorem st362 : statFn Tryz.prog Tryz.f362 = true := by kernel_rfl
theorem st363 : statFn Tryz.prog Tryz.f363 = true := by kernel_rfl
theorem st364 : statFn Tryz.prog Tryz.f364 = true := by kernel_rfl
theorem st366 : statFn Tryz.prog Tryz.f366 = true := by kernel_rfl
theorem st367 : statFn Tryz.prog Tryz.f367 = true := by kernel_rfl
theorem st405 : statFn Tryz.prog Tryz.f405 = true := by kernel_rfl
theorem st410 : statFn Tryz.prog Tryz.f410 = true := by kernel_rfl
theorem st411 : statFn Tryz.prog Tryz.f411 = true := by kernel_rfl
theorem st413 : statFn Tryz.prog Tryz.f413 = true := by kernel_rfl
theorem st419 : statFn Tryz.prog Tryz.f419 = true := by kernel_rfl
theorem st422 : statFn Tryz.prog Tryz.f422 = true := by kernel_rfl
theorem st424 : statFn Tryz.prog Tryz.f424 = true := by kernel_rfl
theorem st466 : statFn Tryz.prog Tryz.f466 = true := by kernel_rfl
noncomputable def tabT : BT := (.n 146 Tryz.f146 (.n 79 Tryz.f79 (.n 43 Tryz.f43 (.n 25 Tryz.f25 (.n 15 Tryz.f15 (.n 9 Tryz.f9 (.n 6 Tryz.f6 (.n 4 Tryz.f4 .e .e) (.n 8 Tryz.f8 .e .e)) (.n 14 Tryz.f14 (.n 13 Tryz.f13 .e .e) .e)) (.n 19 Tryz.f19 (.n 17 Tryz.f17 (.n 16 Tryz.f16 .e .e) (.n 18 Tryz.f18 .e .e)) (.n 21 Tryz.f21 (.n 20 Tryz.f20 .e .e) .e))) (.n 33 Tryz.f33 (.n 29 Tryz.f29 (.n 27 Tryz.f27 (.n 26 Tryz.f26 .e .e) (.n 28 Tryz.f28 .e .e)) (.n 31 Tryz.f31 (.n 30 Tryz.f30 .e .e) .e)) (.n 37 Tryz.f37 (.n 35 Tryz.f35 (.n 34 Tryz.f34 .e .e) (.n 36 Tryz.f36 .e .e)) (.n 42 Tryz.f42 (.n 41 Tryz.f41 .e .e) .e)))) (.n 61 Tryz.f61 (.n 53 Tryz.f53 (.n 47 Tryz.f47 (.n 45 Tryz.f45 (.n 44 Tryz.f44 .e .e) (.n 46 Tryz.f46 .e .e)) (.n 49 Tryz.f49 (.n 48 Tryz.f48 .e .e) .e)) (.n 58 Tryz.f58 (.n 55 Tryz.f55 (.n 54 Tryz.f54 .e .e) (.n 56 Tryz.f56 .e .e)) (.n 60 Tryz.f60 (.n 59 Tryz.f59 .e .e) .e))) (.n 72 Tryz.f72 (.n 65 Tryz.f65 (.n 63 Tryz.f63 (.n 62 Tryz.f62 .e .e) (.n 64 Tryz.f64 .e .e)) (.n 71 Tryz.f71 (.n 70 Tryz.f70 .e .e) .e)) (.n 76 Tryz.f76 (.n 74 Tryz.f74 (.n 73 Tryz.f73 .e .e) (.n 75 Tryz.f75 .e .e)) (.n 78 Tryz.f78 (.n 77 Tryz.f77 .e .e) .e))))) (.n 114 Tryz.f114 (.n 93 Tryz.f93 (.n 86 Tryz.f86 (.n 83 Tryz.f83 (.n 81 Tryz.f81 (.n 80 Tryz.f80 .e .e) (.n 82 Tryz.f82 .e .e)) (.n 85 Tryz.f85 (.n 84 Tryz.f84 .e .e) .e)) (.n 90 Tryz.f90 (.n 88 Tryz.f88 (.n 87 Tryz.f87 .e .e) (.n 89 Tryz.f89 .e .e)) (.n 92 Tryz.f92 (.n 91 Tryz.f91 .e .e) .e))) (.n 106 Tryz.f106 (.n 101 Tryz.f101 (.n 98 Tryz.f98 (.n 94 Tryz.f94 .e .e) (.n 99 Tryz.f99 .e .e)) (.n 105 Tryz.f105 (.n 104 Tryz.f104 .e .e) .e)) (.n 110 Tryz.f110 (.n 108 Tryz.f108 (.n 107 Tryz.f107 .e .e) (.n 109 Tryz.f109 .e .e)) (.n 113 Tryz.f113 (.n 112 Tryz.f112 .e .e) .e)))) (.n 131 Tryz.f131 (.n 124 Tryz.f124 (.n 121 Tryz.f121 (.n 119 Tryz.f119 (.n 115 Tryz.f115 .e .e) (.n 120 Tryz.f120 .e .e)) (.n 123 Tryz.f123 (.n 122 Tryz.f122 .e .e) .e)) (.n 128 Tryz.f128 (.n 126 Tryz.f126 (.n 125 Tryz.f125 .e .e) (.n 127 Tryz.f127 .e .e)) (.n 130 Tryz.f130 (.n 129 Tryz.f129 .e .e) .e))) (.n 138 Tryz.f138 (.n 135 Tryz.f135 (.n 133 Tryz.f133 (.n 132 Tryz.f132 .e .e) (.n 134 Tryz.f134 .e .e)) (.n 137 Tryz.f137 (.n 136 Tryz.f136 .e .e) .e)) (.n 142 Tryz.f142 (.n 140 Tryz.f140 (.n 139 Tryz.f139 .e .e) (.n 141 Tryz.f141 .e .e)) (.n 145 Tryz.f145 (.n 143 Tryz.f143 .e .e) .e)))))) (.n 231 Tryz.f231 (.n 192 Tryz.f192 (.n 160 Tryz.f160 (.n 153 Tryz.f153 (.n 150 Tryz.f150 (.n 148 Tryz.f148 (.n 147 Tryz.f147 .e .e) (.n 149 Tryz.f149 .e .e)) (.n 152 Tryz.f152 (.n 151 Tryz.f151 .e .e) .e)) (.n 157 Tryz.f157 (.n 155 Tryz.f155 (.n 154 Tryz.f154 .e .e) (.n 156 Tryz.f156 .e .e)) (.n 159 Tryz.f159 (.n 158 Tryz.f158 .e .e) .e))) (.n 181 Tryz.f181 (.n 178 Tryz.f178 (.n 176 Tryz.f176 (.n 162 Tryz.f162 .e .e) (.n 177 Tryz.f177 .e .e)) (.n 180 Tryz.f180 (.n 179 Tryz.f179 .e .e) .e)) (.n 185 Tryz.f185 (.n 183 Tryz.f183 (.n 182 Tryz.f182 .e .e) (.n 184 Tryz.f184 .e .e)) (.n 191 Tryz.f191 (.n 190 Tryz.f190 .e .e) .e)))) (.n 208 Tryz.f208 (.n 199 Tryz.f199 (.n 196 Tryz.f196 (.n 194 Tryz.f194 (.n 193 Tryz.f193 .e .e) (.n 195 Tryz.f195 .e .e)) (.n 198 Tryz.f198 (.n 197 Tryz.f197 .e .e) .e)) (.n 204 Tryz.f204 (.n 201 Tryz.f201 (.n 200 Tryz.f200 .e .e) (.n 202 Tryz.f202 .e .e)) (.n 206 Tryz.f206 (.n 205 Tryz.f205 .e .e) .e))) (.n 216 Tryz.f216 (.n 213 Tryz.f213 (.n 210 Tryz.f210 (.n 209 Tryz.f209 .e .e) (.n 211 Tryz.f211 .e .e)) (.n 215 Tryz.f215 (.n 214 Tryz.f214 .e .e) .e)) (.n 220 Tryz.f220 (.n 218 Tryz.f218 (.n 217 Tryz.f217 .e .e) (.n 219 Tryz.f219 .e .e)) (.n 229 Tryz.f229 (.n 228 Tryz.f228 .e .e) .e))))) (.n 342 Tryz.f342 (.n 293 Tryz.f293 (.n 286 Tryz.f286 (.n 273 Tryz.f273 (.n 271 Tryz.f271 (.n 264 Tryz.f264 .e .e) (.n 272 Tryz.f272 .e .e)) (.n 285 Tryz.f285 (.n 284 Tryz.f284 .e .e) .e)) (.n 290 Tryz.f290 (.n 288 Tryz.f288 (.n 287 Tryz.f287 .e .e) (.n 289 Tryz.f289 .e .e)) (.n 292 Tryz.f292 (.n 291 Tryz.f291 .e .e) .e))) (.n 303 Tryz.f303 (.n 299 Tryz.f299 (.n 295 Tryz.f295 (.n 294 Tryz.f294 .e .e) (.n 298 Tryz.f298 .e .e)) (.n 302 Tryz.f302 (.n 300 Tryz.f300 .e .e) .e)) (.n 307 Tryz.f307 (.n 305 Tryz.f305 (.n 304 Tryz.f304 .e .e) (.n 306 Tryz.f306 .e .e)) (.n 335 Tryz.f335 (.n 308 Tryz.f308 .e .e) .e)))) (.n 361 Tryz.f361 (.n 349 Tryz.f349 (.n 346 Tryz.f346 (.n 344 Tryz.f344 (.n 343 Tryz.f343 .e .e) (.n 345 Tryz.f345 .e .e)) (.n 348 Tryz.f348 (.n 347 Tryz.f347 .e .e) .e)) (.n 358 Tryz.f358 (.n 354 Tryz.f354 (.n 350 Tryz.f350 .e .e) (.n 357 Tryz.f357 .e .e)) (.n 360 Tryz.f360 (.n 359 Tryz.f359 .e .e) .e))) (.n 410 Tryz.f410 (.n 366 Tryz.f366 (.n 363 Tryz.f363 (.n 362 Tryz.f362 .e .e) (.n 364 Tryz.f364 .e .e)) (.n 405 Tryz.f405 (.n 367 Tryz.f367 .e .e) .e)) (.n 422 Tryz.f422 (.n 413 Tryz.f413 (.n 411 Tryz.f411 .e .e) (.n 419 Tryz.f419 .e .e)) (.n 466 Tryz.f466 (.n 424 Tryz.f424 .e .e) .e)))))))
theorem tabT_ok : tabT.Ok Tryz.prog := ⟨⟨Tryz.func146, st146⟩, ⟨⟨Tryz.func79, st79⟩, ⟨⟨Tryz.func43, st43⟩, ⟨⟨Tryz.func25, st25⟩, ⟨⟨Tryz.func15, st15⟩, ⟨⟨Tryz.func9, st9⟩, ⟨⟨Tryz.func6, st6⟩, ⟨⟨Tryz.func4, st4⟩, True.intro, True.intro⟩, ⟨⟨Tryz.func8, st8⟩, True.intro, True.intro⟩⟩, ⟨⟨Tryz.func14, st14⟩, ⟨⟨Tryz.func13, st13⟩, True.intro, True.intro⟩, True.intro⟩⟩, ⟨⟨Tryz.func19, st19⟩, ⟨⟨Tryz.func17, st17⟩, ⟨⟨Tryz.func16, st16⟩, True.intro, True.intro⟩, ⟨⟨Tryz.func18, st18⟩, True.intro, True.intro⟩⟩, ⟨⟨Tryz.func21, st21⟩, ⟨⟨Tryz.func20, st20⟩, True.intro, True.intro⟩, True.intro⟩⟩⟩, ⟨⟨Tryz.func33, st33⟩, ⟨⟨Tryz.func29, st29⟩, ⟨⟨Tryz.func27, st27⟩, ⟨⟨Tryz.func26, st26⟩, True.intro, True.intro⟩, ⟨⟨Tryz.func28, st28⟩, True.intro, True.intro⟩⟩, ⟨⟨Tryz.func31, st31⟩, ⟨⟨Tryz.func30, st30⟩, True.intro, True.intro⟩, True.intro⟩⟩, ⟨⟨Tryz.func37, st37⟩, ⟨⟨Tryz.func35, st35⟩, ⟨⟨Tryz.func34, st34⟩, True.intro, True.intro⟩, ⟨⟨Tryz.func36, st36⟩, True.intro, True.intro⟩⟩, ⟨⟨Tryz.func42, st42⟩, ⟨⟨Tryz.func41, st41⟩, True.intro, True.intro⟩, True.intro⟩⟩⟩⟩, ⟨⟨Tryz.func61, st61⟩, ⟨⟨Tryz.func53, st53⟩, ⟨⟨Tryz.func47, st47⟩, ⟨⟨Tryz.func45, st45⟩, ⟨⟨Tryz.func44, st44⟩, True.intro, True.intro⟩, ⟨⟨Tryz.func46, st46⟩, True.intro, True.intro⟩⟩, ⟨⟨Tryz.func49, st49⟩, ⟨⟨Tryz.func48, st48⟩, True.intro, True.intro⟩, True.intro⟩⟩, ⟨⟨Tryz.func58, st58⟩, ⟨⟨Tryz.func55, st55⟩, ⟨⟨Tryz.func54, st54⟩, True.intro, True.intro⟩, ⟨⟨Tryz.func56, st56⟩, True.intro, True.intro⟩⟩, ⟨⟨Tryz.func60, st60⟩, ⟨⟨Tryz.func59, st59⟩, True.intro, True.intro⟩, True.intro⟩⟩⟩, ⟨⟨Tryz.func72, st72⟩, ⟨⟨Tryz.func65, st65⟩, ⟨⟨Tryz.func63, st63⟩, ⟨⟨Tryz.func62, st62⟩, True.intro, True.intro⟩, ⟨⟨Tryz.func64, st64⟩, True.intro, True.intro⟩⟩, ⟨⟨Tryz.func71, st71⟩, ⟨⟨Tryz.func70, st70⟩, True.intro, True.intro⟩, True.intro⟩⟩, ⟨⟨Tryz.func76, st76⟩, ⟨⟨Tryz.func74, st74⟩, ⟨⟨Tryz.func73, st73⟩, True.intro, True.intro⟩, ⟨⟨Tryz.func75, st75⟩, True.intro, True.intro⟩⟩, ⟨⟨Tryz.func78, st78⟩, ⟨⟨Tryz.func77, st77⟩, True.intro, True.intro⟩, True.intro⟩⟩⟩⟩⟩, ⟨⟨Tryz.func114, st114⟩, ⟨⟨Tryz.func93, st93⟩, ⟨⟨Tryz.func86, st86⟩, ⟨⟨Tryz.func83, st83⟩, ⟨⟨Tryz.func81, st81⟩, ⟨⟨Tryz.func80, st80⟩, True.intro, True.intro⟩, ⟨⟨Tryz.func82, st82⟩, True.intro, True.intro⟩⟩, ⟨⟨Tryz.func85, st85⟩, ⟨⟨Tryz.func84, st84⟩, True.intro, True.intro⟩, True.intro⟩⟩, ⟨⟨Tryz.func90, st90⟩, ⟨⟨Tryz.func88, st88⟩, ⟨⟨Tryz.func87, st87⟩, True.intro, True.intro⟩, ⟨⟨Tryz.func89, st89⟩, True.intro, True.intro⟩⟩, ⟨⟨Tryz.func92, st92⟩, ⟨⟨Tryz.func91, st91⟩, True.intro, True.intro⟩, True.intro⟩⟩⟩, ⟨⟨Tryz.func106, st106⟩, ⟨⟨Tryz.func101, st101⟩, ⟨⟨Tryz.func98, st98⟩, ⟨⟨Tryz.func94, st94⟩, True.intro, True.intro⟩, ⟨⟨Tryz.func99, st99⟩, True.intro, True.intro⟩⟩, ⟨⟨Tryz.func105, st105⟩, ⟨⟨Tryz.func104, st104⟩, True.intro, True.intro⟩, True.intro⟩⟩, ⟨⟨Tryz.func110, st110⟩, ⟨⟨Tryz.func108, st108⟩, ⟨⟨Tryz.func107, st107⟩, True.intro, True.intro⟩, ⟨⟨Tryz.func109, st109⟩, True.intro, True.intro⟩⟩, ⟨⟨Tryz.func113, st113⟩, ⟨⟨Tryz.func112, st112⟩, True.intro, True.intro⟩, True.intro⟩⟩⟩⟩, ⟨⟨Tryz.func131, st131⟩, ⟨⟨Tryz.func124, st124⟩, ⟨⟨Tryz.func121, st121⟩, ⟨⟨Tryz.func119, st119⟩, ⟨⟨Tryz.func115, st115⟩, True.intro, True.intro⟩, ⟨⟨Tryz.func120, st120⟩, True.intro, True.intro⟩⟩, ⟨⟨Tryz.func123, st123⟩, ⟨⟨Tryz.func122, st122⟩, True.intro, True.intro⟩, True.intro⟩⟩, ⟨⟨Tryz.func128, st128⟩, ⟨⟨Tryz.func126, st126⟩, ⟨⟨Tryz.func125, st125⟩, True.intro, True.intro⟩, ⟨⟨Tryz.func127, st127⟩, True.intro, True.intro⟩⟩, ⟨⟨Tryz.func130, st130⟩, ⟨⟨Tryz.func129, st129⟩, True.intro, True.intro⟩, True.intro⟩⟩⟩, ⟨⟨Tryz.func138, st138⟩, ⟨⟨Tryz.func135, st135⟩, ⟨⟨Tryz.func133, st133⟩, ⟨⟨Tryz.func132, st132⟩, True.intro, True.intro⟩, ⟨⟨Tryz.func134, st134⟩, True.intro, True.intro⟩⟩, ⟨⟨Tryz.func137, st137⟩, ⟨⟨Tryz.func136, st136⟩, True.intro, True.intro⟩, True.intro⟩⟩, ⟨⟨Tryz.func142, st142⟩, ⟨⟨Tryz.func140, st140⟩, ⟨⟨Tryz.func139, st139⟩, True.intro, True.intro⟩, ⟨⟨Tryz.func141, st141⟩, True.intro, True.intro⟩⟩, ⟨⟨Tryz.func145, st145⟩, ⟨⟨Tryz.func143, st143⟩, True.intro, True.intro⟩, True.intro⟩⟩⟩⟩⟩⟩, ⟨⟨Tryz.func231, st231⟩, ⟨⟨Tryz.func192, st192⟩, ⟨⟨Tryz.func160, st160⟩, ⟨⟨Tryz.func153, st153⟩, ⟨⟨Tryz.func150, st150⟩, ⟨⟨Tryz.func148, st148⟩, ⟨⟨Tryz.func147, st147⟩, True.intro, True.intro⟩, ⟨⟨Tryz.func149, st149⟩, True.intro, True.intro⟩⟩, ⟨⟨Tryz.func152, st152⟩, ⟨⟨Tryz.func151, st151⟩, True.intro, True.intro⟩, True.intro⟩⟩, ⟨⟨Tryz.func157, st157⟩, ⟨⟨Tryz.func155, st155⟩, ⟨⟨Tryz.func154, st154⟩, True.intro, True.intro⟩, ⟨⟨Tryz.func156, st156⟩, True.intro, True.intro⟩⟩, ⟨⟨Tryz.func159, st159⟩, ⟨⟨Tryz.func158, st158⟩, True.intro, True.intro⟩, True.intro⟩⟩⟩, ⟨⟨Tryz.func181, st181⟩, ⟨⟨Tryz.func178, st178⟩, ⟨⟨Tryz.func176, st176⟩, ⟨⟨Tryz.func162, st162⟩, True.intro, True.intro⟩, ⟨⟨Tryz.func177, st177⟩, True.intro, True.intro⟩⟩, ⟨⟨Tryz.func180, st180⟩, ⟨⟨Tryz.func179, st179⟩, True.intro, True.intro⟩, True.intro⟩⟩, ⟨⟨Tryz.func185, st185⟩, ⟨⟨Tryz.func183, st183⟩, ⟨⟨Tryz.func182, st182⟩, True.intro, True.intro⟩, ⟨⟨Tryz.func184, st184⟩, True.intro, True.intro⟩⟩, ⟨⟨Tryz.func191, st191⟩, ⟨⟨Tryz.func190, st190⟩, True.intro, True.intro⟩, True.intro⟩⟩⟩⟩, ⟨⟨Tryz.func208, st208⟩, ⟨⟨Tryz.func199, st199⟩, ⟨⟨Tryz.func196, st196⟩, ⟨⟨Tryz.func194, st194⟩, ⟨⟨Tryz.func193, st193⟩, True.intro, True.intro⟩, ⟨⟨Tryz.func195, st195⟩, True.intro, True.intro⟩⟩, ⟨⟨Tryz.func198, st198⟩, ⟨⟨Tryz.func197, st197⟩, True.intro, True.intro⟩, True.intro⟩⟩, ⟨⟨Tryz.func204, st204⟩, ⟨⟨Tryz.func201, st201⟩, ⟨⟨Tryz.func200, st200⟩, True.intro, True.intro⟩, ⟨⟨Tryz.func202, st202⟩, True.intro, True.intro⟩⟩, ⟨⟨Tryz.func206, st206⟩, ⟨⟨Tryz.func205, st205⟩, True.intro, True.intro⟩, True.intro⟩⟩⟩, ⟨⟨Tryz.func216, st216⟩, ⟨⟨Tryz.func213, st213⟩, ⟨⟨Tryz.func210, st210⟩, ⟨⟨Tryz.func209, st209⟩, True.intro, True.intro⟩, ⟨⟨Tryz.func211, st211⟩, True.intro, True.intro⟩⟩, ⟨⟨Tryz.func215, st215⟩, ⟨⟨Tryz.func214, st214⟩, True.intro, True.intro⟩, True.intro⟩⟩, ⟨⟨Tryz.func220, st220⟩, ⟨⟨Tryz.func218, st218⟩, ⟨⟨Tryz.func217, st217⟩, True.intro, True.intro⟩, ⟨⟨Tryz.func219, st219⟩, True.intro, True.intro⟩⟩, ⟨⟨Tryz.func229, st229⟩, ⟨⟨Tryz.func228, st228⟩, True.intro, True.intro⟩, True.intro⟩⟩⟩⟩⟩, ⟨⟨Tryz.func342, st342⟩, ⟨⟨Tryz.func293, st293⟩, ⟨⟨Tryz.func286, st286⟩, ⟨⟨Tryz.func273, st273⟩, ⟨⟨Tryz.func271, st271⟩, ⟨⟨Tryz.func264, st264⟩, True.intro, True.intro⟩, ⟨⟨Tryz.func272, st272⟩, True.intro, True.intro⟩⟩, ⟨⟨Tryz.func285, st285⟩, ⟨⟨Tryz.func284, st284⟩, True.intro, True.intro⟩, True.intro⟩⟩, ⟨⟨Tryz.func290, st290⟩, ⟨⟨Tryz.func288, st288⟩, ⟨⟨Tryz.func287, st287⟩, True.intro, True.intro⟩, ⟨⟨Tryz.func289, st289⟩, True.intro, True.intro⟩⟩, ⟨⟨Tryz.func292, st292⟩, ⟨⟨Tryz.func291, st291⟩, True.intro, True.intro⟩, True.intro⟩⟩⟩, ⟨⟨Tryz.func303, st303⟩, ⟨⟨Tryz.func299, st299⟩, ⟨⟨Tryz.func295, st295⟩, ⟨⟨Tryz.func294, st294⟩, True.intro, True.intro⟩, ⟨⟨Tryz.func298, st298⟩, True.intro, True.intro⟩⟩, ⟨⟨Tryz.func302, st302⟩, ⟨⟨Tryz.func300, st300⟩, True.intro, True.intro⟩, True.intro⟩⟩, ⟨⟨Tryz.func307, st307⟩, ⟨⟨Tryz.func305, st305⟩, ⟨⟨Tryz.func304, st304⟩, True.intro, True.intro⟩, ⟨⟨Tryz.func306, st306⟩, True.intro, True.intro⟩⟩, ⟨⟨Tryz.func335, st335⟩, ⟨⟨Tryz.func308, st308⟩, True.intro, True.intro⟩, True.intro⟩⟩⟩⟩, ⟨⟨Tryz.func361, st361⟩, ⟨⟨Tryz.func349, st349⟩, ⟨⟨Tryz.func346, st346⟩, ⟨⟨Tryz.func344, st344⟩, ⟨⟨Tryz.func343, st343⟩, True.intro, True.intro⟩, ⟨⟨Tryz.func345, st345⟩, True.intro, True.intro⟩⟩, ⟨⟨Tryz.func348, st348⟩, ⟨⟨Tryz.func347, st347⟩, True.intro, True.intro⟩, True.intro⟩⟩, ⟨⟨Tryz.func358, st358⟩, ⟨⟨Tryz.func354, st354⟩, ⟨⟨Tryz.func350, st350⟩, True.intro, True.intro⟩, ⟨⟨Tryz.func357, st357⟩, True.intro, True.intro⟩⟩, ⟨⟨Tryz.func360, st360⟩, ⟨⟨Tryz.func359, st359⟩, True.intro, True.intro⟩, True.intro⟩⟩⟩, ⟨⟨Tryz.func410, st410⟩, ⟨⟨Tryz.func366, st366⟩, ⟨⟨Tryz.func363, st363⟩, ⟨⟨Tryz.func362, st362⟩, True.intro, True.intro⟩, ⟨⟨Tryz.func364, st364⟩, True.intro, True.intro⟩⟩, ⟨⟨Tryz.func405, st405⟩, ⟨⟨Tryz.func367, st367⟩, True.intro, True.intro⟩, True.intro⟩⟩, ⟨⟨Tryz.func422, st422⟩, ⟨⟨Tryz.func413, st413⟩, ⟨⟨Tryz.func411, st411⟩, True.intro, True.intro⟩, ⟨⟨Tryz.func419, st419⟩, True.intro, True.intro⟩⟩, ⟨⟨Tryz.func466, st466⟩, ⟨⟨Tryz.func424, st424⟩, True.intro, True.intro⟩, True.intro⟩⟩⟩⟩⟩⟩⟩
end Go.EvNil

namespace Go.EvNil
open Go Go.Ev Go.Proofs
set_option maxRecDepth 100000
def lift1 (F : List AV → Option AV) : List AV → H → Option (AV × H) := fun a hh => match F a with | some v => some (v, hh) | none => none
def insN (n : Nat) : List Nat → List Nat
  | [] => [n]
  | m :: l => bif Nat.ble n m then n :: m :: l else m :: insN n l
def sortN : List Nat → List Nat
  | [] => []
  | n :: l => insN n (sortN l)
def keyNats : List (AV × AV × Nat) → Option (List Nat)
  | [] => some []
  | (.int .i64 (.ofNat m), _, _) :: l => bif Nat.ble m 9223372036854775807 then (match keyNats l with | some r => some (m :: r) | none => none) else none
  | _ :: _ => none
def nodupN : List Nat → Bool
  | [] => true
  | a :: l => !(l.any (Nat.beq a)) && nodupN l
def bornOk (es : List (AV × AV × Nat)) (clock : Nat) : Bool := (es.map (·.2.2)).all (fun n => Nat.blt n clock) && nodupN (es.map (·.2.2))
def keysV : List AV → H → Option (AV × H)
  | [.ptr b o], h => match h.get b with
    | some (.cells _ vs _ _) => match vs[o + 8]? with
      | some (.map m) => match h.get m with
        | some (.map es clock) => match keyNats es with
          | some ks => bif Nat.blt h.nx maxT && Nat.ble 1 ks.length && Nat.ble ks.length 1000 && nodupN ks && bornOk es clock then some (.slice h.nx 0 ks.length 1 none, h.add (.cells 3 ((sortN ks).map fun n => .int .i64 (.ofNat n)) false true)) else none
          | none => none
        | _ => none
      | _ => none
    | _ => none
  | _, _ => none
def ext : Ext1 := fun f => bif Nat.beq f 409 then some (lift1 sameV) else bif Nat.beq f 472 then some (lift1 indexByteV) else bif Nat.beq f 429 then some (lift1 countV) else bif Nat.beq f 164 then some (lift1 compareV) else bif Nat.beq f 465 then some (noZeroV 5) else bif Nat.beq f 12 then some keysV else none
def tens : List AV := [.int .i64 1, .int .i64 10, .int .i64 100, .int .i64 1000, .int .i64 10000, .int .i64 100000, .int .i64 1000000]
def tensB : ABlk := .ro 374 tens
def h0 : H := (⟨.e, 13⟩ : H).upd 1 (some tensB)
end Go.EvNil
