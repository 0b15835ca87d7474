/-
  The functions that the closed runs come to are those of the program, and stand-ins for some of them.
-/
import Derived.Test.YtcooocbhkkmiaaaGreatDoorProg
import Derived.Test.YtcooocbhkkmiaaaGreatDoorEvPart3
import Derived.KernelRfl
set_option linter.all false
namespace Go.EvProp
open Go Go.Ev Go.Proofs
set_option maxRecDepth 100000
theorem st3 : statFn Tryz.prog Tryz.f3 = true := by kernel_rfl
theorem st4 : statFn Tryz.prog Tryz.f4 = true := by kernel_rfl
theorem st8 : statFn Tryz.prog Tryz.f8 = true := by kernel_rfl
theorem st9 : statFn Tryz.prog Tryz.f9 = true := by kernel_rfl
theorem st10 : statFn Tryz.prog Tryz.f10 = true := by kernel_rfl
theorem st11 : statFn Tryz.prog Tryz.f11 = true := by kernel_rfl
theorem st12 : statFn Tryz.prog Tryz.f12 = true := by kernel_rfl
theorem st13 : statFn Tryz.prog Tryz.f13 = true := by kernel_rfl
theorem st26 : statFn Tryz.prog Tryz.f26 = true := by kernel_rfl
theorem st27 : statFn Tryz.prog Tryz.f27 = true := by kernel_rfl
theorem st28 : statFn Tryz.prog Tryz.f28 = true := by kernel_rfl
theorem st29 : statFn Tryz.prog Tryz.f29 = true := by kernel_rfl
theorem st30 : statFn Tryz.prog Tryz.f30 = true := by kernel_rfl
theorem st31 : statFn Tryz.prog Tryz.f31 = true := by kernel_rfl
theorem st32 : statFn Tryz.prog Tryz.f32 = true := by kernel_rfl
theorem st33 : statFn Tryz.prog Tryz.f33 = true := by kernel_rfl
theorem st34 : statFn Tryz.prog Tryz.f34 = true := by kernel_rfl
theorem st35 : statFn Tryz.prog Tryz.f35 = true := by kernel_rfl
theorem st36 : statFn Tryz.prog Tryz.f36 = true := by kernel_rfl
theorem st38 : statFn Tryz.prog Tryz.f38 = true := by kernel_rfl
theorem st39 : statFn Tryz.prog Tryz.f39 = true := by kernel_rfl
theorem st40 : statFn Tryz.prog Tryz.f40 = true := by kernel_rfl
theorem st41 : statFn Tryz.prog Tryz.f41 = true := by kernel_rfl
theorem st52 : statFn Tryz.prog Tryz.f52 = true := by kernel_rfl
theorem st58 : statFn Tryz.prog Tryz.f58 = true := by kernel_rfl
theorem st59 : statFn Tryz.prog Tryz.f59 = true := by kernel_rfl
theorem st60 : statFn Tryz.prog Tryz.f60 = true := by kernel_rfl
theorem st61 : statFn Tryz.prog Tryz.f61 = true := by kernel_rfl
theorem st62 : statFn Tryz.prog Tryz.f62 = true := by kernel_rfl
theorem st63 : statFn Tryz.prog Tryz.f63 = true := by kernel_rfl
theorem st64 : statFn Tryz.prog Tryz.f64 = true := by kernel_rfl
theorem st65 : statFn Tryz.prog Tryz.f65 = true := by kernel_rfl
theorem st66 : statFn Tryz.prog Tryz.f66 = true := by kernel_rfl
theorem st67 : statFn Tryz.prog Tryz.f67 = true := by kernel_rfl
theorem st68 : statFn Tryz.prog Tryz.f68 = true := by kernel_rfl
theorem st70 : statFn Tryz.prog Tryz.f70 = true := by kernel_rfl
theorem st71 : statFn Tryz.prog Tryz.f71 = true := by kernel_rfl
theorem st72 : statFn Tryz.prog Tryz.f72 = true := by kernel_rfl
theorem st73 : statFn Tryz.prog Tryz.f73 = true := by kernel_rfl
theorem st74 : statFn Tryz.prog Tryz.f74 = true := by kernel_rfl
theorem st75 : statFn Tryz.prog Tryz.f75 = true := by kernel_rfl
theorem st76 : statFn Tryz.prog Tryz.f76 = true := by kernel_rfl
theorem st77 : statFn Tryz.prog Tryz.f77 = true := by kernel_rfl
theorem st79 : statFn Tryz.prog Tryz.f79 = true := by kernel_rfl
theorem st80 : statFn Tryz.prog Tryz.f80 = true := by kernel_rfl
theorem st82 : statFn Tryz.prog Tryz.f82 = true := by kernel_rfl
theorem st83 : statFn Tryz.prog Tryz.f83 = true := by kernel_rfl
theorem st84 : statFn Tryz.prog Tryz.f84 = true := by kernel_rfl
theorem st85 : statFn Tryz.prog Tryz.f85 = true := by kernel_rfl
theorem st86 : statFn Tryz.prog Tryz.f86 = true := by kernel_rfl
theorem st87 : statFn Tryz.prog Tryz.f87 = true := by kernel_rfl
theorem st88 : statFn Tryz.prog Tryz.f88 = true := by kernel_rfl
theorem st90 : statFn Tryz.prog Tryz.f90 = true := by kernel_rfl
theorem st91 : statFn Tryz.prog Tryz.f91 = true := by kernel_rfl
theorem st92 : statFn Tryz.prog Tryz.f92 = true := by kernel_rfl
theorem st93 : statFn Tryz.prog Tryz.f93 = true := by kernel_rfl
theorem st94 : statFn Tryz.prog Tryz.f94 = true := by kernel_rfl
theorem st95 : statFn Tryz.prog Tryz.f95 = true := by kernel_rfl
theorem st96 : statFn Tryz.prog Tryz.f96 = true := by kernel_rfl
theorem st97 : statFn Tryz.prog Tryz.f97 = true := by kernel_rfl
theorem st98 : statFn Tryz.prog Tryz.f98 = true := by kernel_rfl
theorem st99 : statFn Tryz.prog Tryz.f99 = true := by kernel_rfl
theorem st100 : statFn Tryz.prog Tryz.f100 = true := by kernel_rfl
theorem st102 : statFn Tryz.prog Tryz.f102 = true := by kernel_rfl
theorem st108 : statFn Tryz.prog Tryz.f108 = true := by kernel_rfl
theorem st109 : statFn Tryz.prog Tryz.f109 = true := by kernel_rfl
theorem st110 : statFn Tryz.prog Tryz.f110 = true := by kernel_rfl
theorem st111 : statFn Tryz.prog Tryz.f111 = true := by kernel_rfl
theorem st119 : statFn Tryz.prog Tryz.f119 = true := by kernel_rfl
theorem st124 : statFn Tryz.prog Tryz.f124 = true := by kernel_rfl
theorem st125 : statFn Tryz.prog Tryz.f125 = true := by kernel_rfl
theorem st126 : statFn Tryz.prog Tryz.f126 = true := by kernel_rfl
theorem st127 : statFn Tryz.prog Tryz.f127 = true := by kernel_rfl
theorem st128 : statFn Tryz.prog Tryz.f128 = true := by kernel_rfl
theorem st129 : statFn Tryz.prog Tryz.f129 = true := by kernel_rfl
theorem st130 : statFn Tryz.prog Tryz.f130 = true := by kernel_rfl
theorem st131 : statFn Tryz.prog Tryz.f131 = true := by kernel_rfl
theorem st132 : statFn Tryz.prog Tryz.f132 = true := by kernel_rfl
theorem st133 : statFn Tryz.prog Tryz.f133 = true := by kernel_rfl
theorem st136 : statFn Tryz.prog Tryz.f136 = true := by kernel_rfl
theorem st137 : statFn Tryz.prog Tryz.f137 = true := by kernel_rfl
theorem st138 : statFn Tryz.prog Tryz.f138 = true := by kernel_rfl
theorem st139 : statFn Tryz.prog Tryz.f139 = true := by kernel_rfl
theorem st140 : statFn Tryz.prog Tryz.f140 = true := by kernel_rfl
theorem st142 : statFn Tryz.prog Tryz.f142 = true := by kernel_rfl
theorem st143 : statFn Tryz.prog Tryz.f143 = true := by kernel_rfl
theorem st144 : statFn Tryz.prog Tryz.f144 = true := by kernel_rfl
theorem st145 : statFn Tryz.prog Tryz.f145 = true := by kernel_rfl
theorem st150 : statFn Tryz.prog Tryz.f150 = true := by kernel_rfl
theorem st151 : statFn Tryz.prog Tryz.f151 = true := by kernel_rfl
theorem st152 : statFn Tryz.prog Tryz.f152 = true := by kernel_rfl
theorem st153 : statFn Tryz.prog Tryz.f153 = true := by kernel_rfl
theorem st154 : statFn Tryz.prog Tryz.f154 = true := by kernel_rfl
theorem st155 : statFn Tryz.prog Tryz.f155 = true := by kernel_rfl
theorem st156 : statFn Tryz.prog Tryz.f156 = true := by kernel_rfl
theorem st157 : statFn Tryz.prog Tryz.f157 = true := by kernel_rfl
theorem st158 : statFn Tryz.prog Tryz.f158 = true := by kernel_rfl
theorem st159 : statFn Tryz.prog Tryz.f159 = true := by kernel_rfl
theorem st160 : statFn Tryz.prog Tryz.f160 = true := by kernel_rfl
theorem st162 : statFn Tryz.prog Tryz.f162 = true := by kernel_rfl
theorem st163 : statFn Tryz.prog Tryz.f163 = true := by kernel_rfl
theorem st164 : statFn Tryz.prog Tryz.f164 = true := by kernel_rfl
theorem st165 : statFn Tryz.prog Tryz.f165 = true := by kernel_rfl
theorem st166 : statFn Tryz.prog Tryz.f166 = true := by kernel_rfl
theorem st168 : statFn Tryz.prog Tryz.f168 = true := by kernel_rfl
theorem st169 : statFn Tryz.prog Tryz.f169 = true := by kernel_rfl
theorem st175 : statFn Tryz.prog Tryz.f175 = true := by kernel_rfl
theorem st177 : statFn Tryz.prog Tryz.f177 = true := by kernel_rfl
theorem st179 : statFn Tryz.prog Tryz.f179 = true := by kernel_rfl
theorem st180 : statFn Tryz.prog Tryz.f180 = true := by kernel_rfl
theorem st181 : statFn Tryz.prog Tryz.f181 = true := by kernel_rfl
theorem st182 : statFn Tryz.prog Tryz.f182 = true := by kernel_rfl
theorem st184 : statFn Tryz.prog Tryz.f184 = true := by kernel_rfl
theorem st189 : statFn Tryz.prog Tryz.f189 = true := by kernel_rfl
theorem st190 : statFn Tryz.prog Tryz.f190 = true := by kernel_rfl
theorem st191 : statFn Tryz.prog Tryz.f191 = true := by kernel_rfl
theorem st193 : statFn Tryz.prog Tryz.f193 = true := by kernel_rfl
theorem st194 : statFn Tryz.prog Tryz.f194 = true := by kernel_rfl
theorem st195 : statFn Tryz.prog Tryz.f195 = true := by kernel_rfl
theorem st196 : statFn Tryz.prog Tryz.f196 = true := by kernel_rfl
theorem st197 : statFn Tryz.prog Tryz.f197 = true := by kernel_rfl
theorem st199 : statFn Tryz.prog Tryz.f199 = true := by kernel_rfl
theorem st200 : statFn Tryz.prog Tryz.f200 = true := by kernel_rfl
theorem st201 : statFn Tryz.prog Tryz.f201 = true := by kernel_rfl
theorem st202 : statFn Tryz.prog Tryz.f202 = true := by kernel_rfl
theorem st203 : statFn Tryz.prog Tryz.f203 = true := by kernel_rfl
theorem st204 : statFn Tryz.prog Tryz.f204 = true := by kernel_rfl
theorem st206 : statFn Tryz.prog Tryz.f206 = true := by kernel_rfl
theorem st207 : statFn Tryz.prog Tryz.f207 = true := by kernel_rfl
theorem st208 : statFn Tryz.prog Tryz.f208 = true := by kernel_rfl
theorem st209 : statFn Tryz.prog Tryz.f209 = true := by kernel_rfl
theorem st210 : statFn Tryz.prog Tryz.f210 = true := by kernel_rfl
theorem st211 : statFn Tryz.prog Tryz.f211 = true := by kernel_rfl
theorem st212 : statFn Tryz.prog Tryz.f212 = true := by kernel_rfl
theorem st213 : statFn Tryz.prog Tryz.f213 = true := by kernel_rfl
theorem st216 : statFn Tryz.prog Tryz.f216 = true := by kernel_rfl
theorem st217 : statFn Tryz.prog Tryz.f217 = true := by kernel_rfl
theorem st219 : statFn Tryz.prog Tryz.f219 = true := by kernel_rfl
theorem st220 : statFn Tryz.prog Tryz.f220 = true := by kernel_rfl
theorem st225 : statFn Tryz.prog Tryz.f225 = true := by kernel_rfl
theorem st226 : statFn Tryz.prog Tryz.f226 = true := by kernel_rfl
theorem st227 : statFn Tryz.prog Tryz.f227 = true := by kernel_rfl
theorem st229 : statFn Tryz.prog Tryz.f229 = true := by kernel_rfl
theorem st235 : statFn Tryz.prog Tryz.f235 = true := by kernel_rfl
theorem st236 : statFn Tryz.prog Tryz.f236 = true := by kernel_rfl
theorem st240 : statFn Tryz.prog Tryz.f240 = true := by kernel_rfl
theorem st242 : statFn Tryz.prog Tryz.f242 = true := by kernel_rfl
theorem st250 : statFn Tryz.prog Tryz.f250 = true := by kernel_rfl
theorem st251 : statFn Tryz.prog Tryz.f251 = true := by kernel_rfl
theorem st253 : statFn Tryz.prog Tryz.f253 = true := by kernel_rfl
theorem st255 : statFn Tryz.prog Tryz.f255 = true := by kernel_rfl
theorem st256 : statFn Tryz.prog Tryz.f256 = true := by kernel_rfl
theorem st257 : statFn Tryz.prog Tryz.f257 = true := by kernel_rfl
theorem st261 : statFn Tryz.prog Tryz.f261 = true := by kernel_rfl
theorem st262 : statFn Tryz.prog Tryz.f262 = true := by kernel_rfl
theorem st271 : statFn Tryz.prog Tryz.f271 = true := by kernel_rfl
theorem st272 : statFn Tryz.prog Tryz.f272 = true := by kernel_rfl
theorem st315 : statFn Tryz.prog Tryz.f315 = true := by kernel_rfl
theorem st316 : statFn Tryz.prog Tryz.f316 = true := by kernel_rfl
theorem st317 : statFn Tryz.prog Tryz.f317 = true := by kernel_rfl
theorem st337 : statFn Tryz.prog Tryz.f337 = true := by kernel_rfl
theorem st339 : statFn Tryz.prog Tryz.f339 = true := by kernel_rfl
theorem st340 : statFn Tryz.prog Tryz.f340 = true := by kernel_rfl
theorem st375 : statFn Tryz.prog Tryz.f375 = true := by kernel_rfl
noncomputable def tabT : BT := (.n 139 Tryz.f139 (.n 76 Tryz.f76 (.n 39 Tryz.f39 (.n 28 Tryz.f28 (.n 11 Tryz.f11 (.n 8 Tryz.f8 (.n 4 Tryz.f4 (.n 3 Tryz.f3 .e .e) .e) (.n 10 Tryz.f10 (.n 9 Tryz.f9 .e .e) .e)) (.n 26 Tryz.f26 (.n 13 Tryz.f13 (.n 12 Tryz.f12 .e .e) .e) (.n 27 Tryz.f27 .e .e))) (.n 33 Tryz.f33 (.n 31 Tryz.f31 (.n 30 Tryz.f30 (.n 29 Tryz.f29 .e .e) .e) (.n 32 Tryz.f32 .e .e)) (.n 36 Tryz.f36 (.n 35 Tryz.f35 (.n 34 Tryz.f34 .e .e) .e) (.n 38 Tryz.f38 .e .e)))) (.n 65 Tryz.f65 (.n 60 Tryz.f60 (.n 52 Tryz.f52 (.n 41 Tryz.f41 (.n 40 Tryz.f40 .e .e) .e) (.n 59 Tryz.f59 (.n 58 Tryz.f58 .e .e) .e)) (.n 63 Tryz.f63 (.n 62 Tryz.f62 (.n 61 Tryz.f61 .e .e) .e) (.n 64 Tryz.f64 .e .e))) (.n 71 Tryz.f71 (.n 68 Tryz.f68 (.n 67 Tryz.f67 (.n 66 Tryz.f66 .e .e) .e) (.n 70 Tryz.f70 .e .e)) (.n 74 Tryz.f74 (.n 73 Tryz.f73 (.n 72 Tryz.f72 .e .e) .e) (.n 75 Tryz.f75 .e .e))))) (.n 100 Tryz.f100 (.n 90 Tryz.f90 (.n 84 Tryz.f84 (.n 80 Tryz.f80 (.n 79 Tryz.f79 (.n 77 Tryz.f77 .e .e) .e) (.n 83 Tryz.f83 (.n 82 Tryz.f82 .e .e) .e)) (.n 87 Tryz.f87 (.n 86 Tryz.f86 (.n 85 Tryz.f85 .e .e) .e) (.n 88 Tryz.f88 .e .e))) (.n 95 Tryz.f95 (.n 93 Tryz.f93 (.n 92 Tryz.f92 (.n 91 Tryz.f91 .e .e) .e) (.n 94 Tryz.f94 .e .e)) (.n 98 Tryz.f98 (.n 97 Tryz.f97 (.n 96 Tryz.f96 .e .e) .e) (.n 99 Tryz.f99 .e .e)))) (.n 127 Tryz.f127 (.n 111 Tryz.f111 (.n 109 Tryz.f109 (.n 108 Tryz.f108 (.n 102 Tryz.f102 .e .e) .e) (.n 110 Tryz.f110 .e .e)) (.n 125 Tryz.f125 (.n 124 Tryz.f124 (.n 119 Tryz.f119 .e .e) .e) (.n 126 Tryz.f126 .e .e))) (.n 132 Tryz.f132 (.n 130 Tryz.f130 (.n 129 Tryz.f129 (.n 128 Tryz.f128 .e .e) .e) (.n 131 Tryz.f131 .e .e)) (.n 137 Tryz.f137 (.n 136 Tryz.f136 (.n 133 Tryz.f133 .e .e) .e) (.n 138 Tryz.f138 .e .e)))))) (.n 201 Tryz.f201 (.n 166 Tryz.f166 (.n 155 Tryz.f155 (.n 150 Tryz.f150 (.n 143 Tryz.f143 (.n 142 Tryz.f142 (.n 140 Tryz.f140 .e .e) .e) (.n 145 Tryz.f145 (.n 144 Tryz.f144 .e .e) .e)) (.n 153 Tryz.f153 (.n 152 Tryz.f152 (.n 151 Tryz.f151 .e .e) .e) (.n 154 Tryz.f154 .e .e))) (.n 160 Tryz.f160 (.n 158 Tryz.f158 (.n 157 Tryz.f157 (.n 156 Tryz.f156 .e .e) .e) (.n 159 Tryz.f159 .e .e)) (.n 164 Tryz.f164 (.n 163 Tryz.f163 (.n 162 Tryz.f162 .e .e) .e) (.n 165 Tryz.f165 .e .e)))) (.n 189 Tryz.f189 (.n 179 Tryz.f179 (.n 175 Tryz.f175 (.n 169 Tryz.f169 (.n 168 Tryz.f168 .e .e) .e) (.n 177 Tryz.f177 .e .e)) (.n 182 Tryz.f182 (.n 181 Tryz.f181 (.n 180 Tryz.f180 .e .e) .e) (.n 184 Tryz.f184 .e .e))) (.n 195 Tryz.f195 (.n 193 Tryz.f193 (.n 191 Tryz.f191 (.n 190 Tryz.f190 .e .e) .e) (.n 194 Tryz.f194 .e .e)) (.n 199 Tryz.f199 (.n 197 Tryz.f197 (.n 196 Tryz.f196 .e .e) .e) (.n 200 Tryz.f200 .e .e))))) (.n 236 Tryz.f236 (.n 213 Tryz.f213 (.n 208 Tryz.f208 (.n 204 Tryz.f204 (.n 203 Tryz.f203 (.n 202 Tryz.f202 .e .e) .e) (.n 207 Tryz.f207 (.n 206 Tryz.f206 .e .e) .e)) (.n 211 Tryz.f211 (.n 210 Tryz.f210 (.n 209 Tryz.f209 .e .e) .e) (.n 212 Tryz.f212 .e .e))) (.n 225 Tryz.f225 (.n 219 Tryz.f219 (.n 217 Tryz.f217 (.n 216 Tryz.f216 .e .e) .e) (.n 220 Tryz.f220 .e .e)) (.n 229 Tryz.f229 (.n 227 Tryz.f227 (.n 226 Tryz.f226 .e .e) .e) (.n 235 Tryz.f235 .e .e)))) (.n 262 Tryz.f262 (.n 253 Tryz.f253 (.n 250 Tryz.f250 (.n 242 Tryz.f242 (.n 240 Tryz.f240 .e .e) .e) (.n 251 Tryz.f251 .e .e)) (.n 257 Tryz.f257 (.n 256 Tryz.f256 (.n 255 Tryz.f255 .e .e) .e) (.n 261 Tryz.f261 .e .e))) (.n 317 Tryz.f317 (.n 315 Tryz.f315 (.n 272 Tryz.f272 (.n 271 Tryz.f271 .e .e) .e) (.n 316 Tryz.f316 .e .e)) (.n 340 Tryz.f340 (.n 339 Tryz.f339 (.n 337 Tryz.f337 .e .e) .e) (.n 375 Tryz.f375 .e .e)))))))
theorem tabT_ok : tabT.Ok Tryz.prog := ⟨⟨Tryz.func139, st139⟩, ⟨⟨Tryz.func76, st76⟩, ⟨⟨Tryz.func39, st39⟩, ⟨⟨Tryz.func28, st28⟩, ⟨⟨Tryz.func11, st11⟩, ⟨⟨Tryz.func8, st8⟩, ⟨⟨Tryz.func4, st4⟩, ⟨⟨Tryz.func3, st3⟩, True.intro, True.intro⟩, True.intro⟩, ⟨⟨Tryz.func10, st10⟩, ⟨⟨Tryz.func9, st9⟩, True.intro, True.intro⟩, True.intro⟩⟩, ⟨⟨Tryz.func26, st26⟩, ⟨⟨Tryz.func13, st13⟩, ⟨⟨Tryz.func12, st12⟩, True.intro, True.intro⟩, True.intro⟩, ⟨⟨Tryz.func27, st27⟩, True.intro, True.intro⟩⟩⟩, ⟨⟨Tryz.func33, st33⟩, ⟨⟨Tryz.func31, st31⟩, ⟨⟨Tryz.func30, st30⟩, ⟨⟨Tryz.func29, st29⟩, True.intro, True.intro⟩, True.intro⟩, ⟨⟨Tryz.func32, st32⟩, True.intro, True.intro⟩⟩, ⟨⟨Tryz.func36, st36⟩, ⟨⟨Tryz.func35, st35⟩, ⟨⟨Tryz.func34, st34⟩, True.intro, True.intro⟩, True.intro⟩, ⟨⟨Tryz.func38, st38⟩, True.intro, True.intro⟩⟩⟩⟩, ⟨⟨Tryz.func65, st65⟩, ⟨⟨Tryz.func60, st60⟩, ⟨⟨Tryz.func52, st52⟩, ⟨⟨Tryz.func41, st41⟩, ⟨⟨Tryz.func40, st40⟩, True.intro, True.intro⟩, True.intro⟩, ⟨⟨Tryz.func59, st59⟩, ⟨⟨Tryz.func58, st58⟩, True.intro, True.intro⟩, True.intro⟩⟩, ⟨⟨Tryz.func63, st63⟩, ⟨⟨Tryz.func62, st62⟩, ⟨⟨Tryz.func61, st61⟩, True.intro, True.intro⟩, True.intro⟩, ⟨⟨Tryz.func64, st64⟩, True.intro, True.intro⟩⟩⟩, ⟨⟨Tryz.func71, st71⟩, ⟨⟨Tryz.func68, st68⟩, ⟨⟨Tryz.func67, st67⟩, ⟨⟨Tryz.func66, st66⟩, True.intro, True.intro⟩, True.intro⟩, ⟨⟨Tryz.func70, st70⟩, True.intro, True.intro⟩⟩, ⟨⟨Tryz.func74, st74⟩, ⟨⟨Tryz.func73, st73⟩, ⟨⟨Tryz.func72, st72⟩, True.intro, True.intro⟩, True.intro⟩, ⟨⟨Tryz.func75, st75⟩, True.intro, True.intro⟩⟩⟩⟩⟩, ⟨⟨Tryz.func100, st100⟩, ⟨⟨Tryz.func90, st90⟩, ⟨⟨Tryz.func84, st84⟩, ⟨⟨Tryz.func80, st80⟩, ⟨⟨Tryz.func79, st79⟩, ⟨⟨Tryz.func77, st77⟩, True.intro, True.intro⟩, True.intro⟩, ⟨⟨Tryz.func83, st83⟩, ⟨⟨Tryz.func82, st82⟩, True.intro, True.intro⟩, True.intro⟩⟩, ⟨⟨Tryz.func87, st87⟩, ⟨⟨Tryz.func86, st86⟩, ⟨⟨Tryz.func85, st85⟩, True.intro, True.intro⟩, True.intro⟩, ⟨⟨Tryz.func88, st88⟩, True.intro, True.intro⟩⟩⟩, ⟨⟨Tryz.func95, st95⟩, ⟨⟨Tryz.func93, st93⟩, ⟨⟨Tryz.func92, st92⟩, ⟨⟨Tryz.func91, st91⟩, True.intro, True.intro⟩, True.intro⟩, ⟨⟨Tryz.func94, st94⟩, True.intro, True.intro⟩⟩, ⟨⟨Tryz.func98, st98⟩, ⟨⟨Tryz.func97, st97⟩, ⟨⟨Tryz.func96, st96⟩, True.intro, True.intro⟩, True.intro⟩, ⟨⟨Tryz.func99, st99⟩, True.intro, True.intro⟩⟩⟩⟩, ⟨⟨Tryz.func127, st127⟩, ⟨⟨Tryz.func111, st111⟩, ⟨⟨Tryz.func109, st109⟩, ⟨⟨Tryz.func108, st108⟩, ⟨⟨Tryz.func102, st102⟩, True.intro, True.intro⟩, True.intro⟩, ⟨⟨Tryz.func110, st110⟩, True.intro, True.intro⟩⟩, ⟨⟨Tryz.func125, st125⟩, ⟨⟨Tryz.func124, st124⟩, ⟨⟨Tryz.func119, st119⟩, True.intro, True.intro⟩, True.intro⟩, ⟨⟨Tryz.func126, st126⟩, True.intro, True.intro⟩⟩⟩, ⟨⟨Tryz.func132, st132⟩, ⟨⟨Tryz.func130, st130⟩, ⟨⟨Tryz.func129, st129⟩, ⟨⟨Tryz.func128, st128⟩, True.intro, True.intro⟩, True.intro⟩, ⟨⟨Tryz.func131, st131⟩, True.intro, True.intro⟩⟩, ⟨⟨Tryz.func137, st137⟩, ⟨⟨Tryz.func136, st136⟩, ⟨⟨Tryz.func133, st133⟩, True.intro, True.intro⟩, True.intro⟩, ⟨⟨Tryz.func138, st138⟩, True.intro, True.intro⟩⟩⟩⟩⟩⟩, ⟨⟨Tryz.func201, st201⟩, ⟨⟨Tryz.func166, st166⟩, ⟨⟨Tryz.func155, st155⟩, ⟨⟨Tryz.func150, st150⟩, ⟨⟨Tryz.func143, st143⟩, ⟨⟨Tryz.func142, st142⟩, ⟨⟨Tryz.func140, st140⟩, True.intro, True.intro⟩, True.intro⟩, ⟨⟨Tryz.func145, st145⟩, ⟨⟨Tryz.func144, st144⟩, True.intro, True.intro⟩, True.intro⟩⟩, ⟨⟨Tryz.func153, st153⟩, ⟨⟨Tryz.func152, st152⟩, ⟨⟨Tryz.func151, st151⟩, True.intro, True.intro⟩, True.intro⟩, ⟨⟨Tryz.func154, st154⟩, True.intro, True.intro⟩⟩⟩, ⟨⟨Tryz.func160, st160⟩, ⟨⟨Tryz.func158, st158⟩, ⟨⟨Tryz.func157, st157⟩, ⟨⟨Tryz.func156, st156⟩, True.intro, True.intro⟩, True.intro⟩, ⟨⟨Tryz.func159, st159⟩, True.intro, True.intro⟩⟩, ⟨⟨Tryz.func164, st164⟩, ⟨⟨Tryz.func163, st163⟩, ⟨⟨Tryz.func162, st162⟩, True.intro, True.intro⟩, True.intro⟩, ⟨⟨Tryz.func165, st165⟩, True.intro, True.intro⟩⟩⟩⟩, ⟨⟨Tryz.func189, st189⟩, ⟨⟨Tryz.func179, st179⟩, ⟨⟨Tryz.func175, st175⟩, ⟨⟨Tryz.func169, st169⟩, ⟨⟨Tryz.func168, st168⟩, True.intro, True.intro⟩, True.intro⟩, ⟨⟨Tryz.func177, st177⟩, True.intro, True.intro⟩⟩, ⟨⟨Tryz.func182, st182⟩, ⟨⟨Tryz.func181, st181⟩, ⟨⟨Tryz.func180, st180⟩, True.intro, True.intro⟩, True.intro⟩, ⟨⟨Tryz.func184, st184⟩, True.intro, True.intro⟩⟩⟩, ⟨⟨Tryz.func195, st195⟩, ⟨⟨Tryz.func193, st193⟩, ⟨⟨Tryz.func191, st191⟩, ⟨⟨Tryz.func190, st190⟩, True.intro, True.intro⟩, True.intro⟩, ⟨⟨Tryz.func194, st194⟩, True.intro, True.intro⟩⟩, ⟨⟨Tryz.func199, st199⟩, ⟨⟨Tryz.func197, st197⟩, ⟨⟨Tryz.func196, st196⟩, True.intro, True.intro⟩, True.intro⟩, ⟨⟨Tryz.func200, st200⟩, True.intro, True.intro⟩⟩⟩⟩⟩, ⟨⟨Tryz.func236, st236⟩, ⟨⟨Tryz.func213, st213⟩, ⟨⟨Tryz.func208, st208⟩, ⟨⟨Tryz.func204, st204⟩, ⟨⟨Tryz.func203, st203⟩, ⟨⟨Tryz.func202, st202⟩, True.intro, True.intro⟩, True.intro⟩, ⟨⟨Tryz.func207, st207⟩, ⟨⟨Tryz.func206, st206⟩, True.intro, True.intro⟩, True.intro⟩⟩, ⟨⟨Tryz.func211, st211⟩, ⟨⟨Tryz.func210, st210⟩, ⟨⟨Tryz.func209, st209⟩, True.intro, True.intro⟩, True.intro⟩, ⟨⟨Tryz.func212, st212⟩, True.intro, True.intro⟩⟩⟩, ⟨⟨Tryz.func225, st225⟩, ⟨⟨Tryz.func219, st219⟩, ⟨⟨Tryz.func217, st217⟩, ⟨⟨Tryz.func216, st216⟩, True.intro, True.intro⟩, True.intro⟩, ⟨⟨Tryz.func220, st220⟩, True.intro, True.intro⟩⟩, ⟨⟨Tryz.func229, st229⟩, ⟨⟨Tryz.func227, st227⟩, ⟨⟨Tryz.func226, st226⟩, True.intro, True.intro⟩, True.intro⟩, ⟨⟨Tryz.func235, st235⟩, True.intro, True.intro⟩⟩⟩⟩, ⟨⟨Tryz.func262, st262⟩, ⟨⟨Tryz.func253, st253⟩, ⟨⟨Tryz.func250, st250⟩, ⟨⟨Tryz.func242, st242⟩, ⟨⟨Tryz.func240, st240⟩, True.intro, True.intro⟩, True.intro⟩, ⟨⟨Tryz.func251, st251⟩, True.intro, True.intro⟩⟩, ⟨⟨Tryz.func257, st257⟩, ⟨⟨Tryz.func256, st256⟩, ⟨⟨Tryz.func255, st255⟩, True.intro, True.intro⟩, True.intro⟩, ⟨⟨Tryz.func261, st261⟩, True.intro, True.intro⟩⟩⟩, ⟨⟨Tryz.func317, st317⟩, ⟨⟨Tryz.func315, st315⟩, ⟨⟨Tryz.func272, st272⟩, ⟨⟨Tryz.func271, st271⟩, True.intro, True.intro⟩, True.intro⟩, ⟨⟨Tryz.func316, st316⟩, True.intro, True.intro⟩⟩, ⟨⟨Tryz.func340, st340⟩, ⟨⟨Tryz.func339, st339⟩, ⟨⟨Tryz.func337, st337⟩, True.intro, True.intro⟩, True.intro⟩, ⟨⟨Tryz.func375, st375⟩, True.intro, True.intro⟩⟩⟩⟩⟩⟩⟩
end Go.EvProp

namespace Go.EvProp
open Go Go.Ev Go.Proofs
set_option maxRecDepth 100000
def lift1 (F : List AV → Option AV) : List AV → H → Option (AV × H) := fun a hh => match F a with | some v => some (v, hh) | none => none
def ext0 : Ext1 := fun f => bif Nat.beq f 183 then some (lift1 sameV) else bif Nat.beq f 333 then some (lift1 indexByteV) else bif Nat.beq f 239 then some (lift1 countV) else bif Nat.beq f 234 then some (noZeroV 5) else none

theorem follows : Tryz.prog.follows .mixedOrders = true := by kernel_rfl
theorem eNoEscape : Entry Tryz.prog 183 Extern.AbiNoEscape.same := Entry.of Tryz.func183 (by kernel_rfl) (by kernel_rfl) (by kernel_rfl) (by kernel_rfl)
theorem eIndexByte : Entry Tryz.prog 333 Extern.BytealgIndexByte.indexByte := Entry.of Tryz.func333 (by kernel_rfl) (by kernel_rfl) (by kernel_rfl) (by kernel_rfl)
theorem eCount : Entry Tryz.prog 239 Extern.BytealgCount.count := Entry.of Tryz.func239 (by kernel_rfl) (by kernel_rfl) (by kernel_rfl) (by kernel_rfl)
theorem eNoZero : Entry Tryz.prog 234 (Extern.BytealgMakeNoZero.makeNoZero #[3] #[87]) := Entry.of Tryz.func234 (by kernel_rfl) (by kernel_rfl) (by kernel_rfl) (by kernel_rfl)

theorem ext0_ok {ρ : Rho} (f : FuncId) (F : List AV → H → Option (AV × H)) (h : ext0 f = some F) : FnOk Tryz.prog ρ f F := by
  unfold ext0 at h
  simp only [bif_beq] at h
  split at h
  · rename_i e; subst e; cases h; exact noEscape_ok eNoEscape
  split at h
  · rename_i e; subst e; cases h; exact indexByte_ok eIndexByte
  split at h
  · rename_i e; subst e; cases h; exact count_ok eCount
  split at h
  · rename_i e; subst e; cases h; exact noZero_ok eNoZero Tryz.underlying87
  · cases h

theorem env0_ok {ρ : Rho} (hρ : ρ.loops = loopsOf Tryz.prog) (n : Nat) : EnvOk Tryz.prog ρ (envK Tryz.prog ext0 tabT.find n) :=
  envK_ok follows hρ (BT.find_ok tabT_ok) ext0_ok n
end Go.EvProp

namespace Go.EvProp
open Go Go.Ev Go.Proofs
set_option maxRecDepth 100000
def parseV : List AV → H → Option (AV × H)
  | [.str [120, 43]], h => some (.tup [.nilslice, .int .i64 (.ofNat 1), .int .i64 (.ofNat 12)], h)
  | [.str [92, 108, 43]], h => bif Nat.blt h.nx maxT then some (.tup [.slice h.nx 0 1 4 none, .int .i64 (.ofNat 0), .int .i64 (.ofNat 0)], h.add (.cells 239 [.int .i64 (.ofNat 3), .int .i64 (.ofNat 1), .int .i64 (.ofNat 200), .str []] false true)) else none
  | _, _ => none
def extP : Ext1 := fun f => bif Nat.beq f 78 then some parseV else ext0 f
def tens : List AV := [.int .i64 (.ofNat 1), .int .i64 (.ofNat 10), .int .i64 (.ofNat 100), .int .i64 (.ofNat 1000), .int .i64 (.ofNat 10000), .int .i64 (.ofNat 100000), .int .i64 (.ofNat 1000000)]
def tensB : ABlk := .ro 244 tens
def pows : List AV := [.int .u64 (.ofNat 1), .int .u64 (.ofNat 10), .int .u64 (.ofNat 100), .int .u64 (.ofNat 1000), .int .u64 (.ofNat 10000), .int .u64 (.ofNat 100000), .int .u64 (.ofNat 1000000), .int .u64 (.ofNat 10000000), .int .u64 (.ofNat 100000000), .int .u64 (.ofNat 1000000000), .int .u64 (.ofNat 10000000000), .int .u64 (.ofNat 100000000000), .int .u64 (.ofNat 1000000000000), .int .u64 (.ofNat 10000000000000), .int .u64 (.ofNat 100000000000000), .int .u64 (.ofNat 1000000000000000), .int .u64 (.ofNat 10000000000000000), .int .u64 (.ofNat 100000000000000000), .int .u64 (.ofNat 1000000000000000000), .int .u64 (.ofNat 10000000000000000000)]
def powB : ABlk := .ro 290 pows
def h0 : H := ((⟨.e, 13⟩ : H).upd 0 (some tensB)).upd 1 (some powB)
end Go.EvProp
