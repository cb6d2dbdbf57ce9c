/-
  Where the library's bodies lie in this program, for the kit's contracts (written by klay.py).
-/
import Derived.Shelf.Lays
import Derived.Shelf.Lays2
import Derived.Test.YtcacohoanlljhaaProg
namespace Go.Proofs.YtcacohoanlljhaaL
set_option maxRecDepth 100000
open Go.Shelf Go.Proofs
def laysn189_ren : Go.Shelf.Ren := ⟨fun | 125 => 87 | 128 => 115 | 129 => 116 | 189 => 66 | 215 => 127 | 216 => 112 | 257 => 86 | 294 => 106 | 295 => 107 | 296 => 108 | 297 => 109 | 298 => 110 | 299 => 111 | 300 => 113 | 301 => 114 | 328 => 122 | 329 => 123 | 330 => 124 | 331 => 125 | 332 => 126 | 343 => 129 | n => n, fun | 0 => 0 | 1 => 1 | 2 => 2 | 3 => 3 | 4 => 4 | 5 => 5 | 6 => 6 | 7 => 7 | 8 => 8 | 9 => 9 | 10 => 10 | 11 => 11 | 12 => 12 | 13 => 13 | 14 => 14 | 15 => 15 | 16 => 16 | 17 => 17 | 18 => 18 | 19 => 19 | 20 => 20 | 21 => 21 | 28 => 24 | 31 => 138 | 34 => 30 | 35 => 96 | 43 => 60 | 46 => 130 | 47 => 129 | 51 => 158 | 52 => 157 | 53 => 160 | 54 => 159 | 73 => 95 | 80 => 175 | 81 => 124 | 83 => 100 | 111 => 67 | 112 => 79 | 114 => 52 | 127 => 184 | 131 => 43 | 132 => 131 | 134 => 128 | 164 => 189 | 181 => 150 | 182 => 151 | 183 => 152 | 184 => 153 | 185 => 154 | 186 => 155 | 187 => 156 | 218 => 166 | 219 => 167 | 220 => 168 | 221 => 169 | 222 => 170 | 223 => 171 | 228 => 172 | 229 => 173 | 230 => 174 | 238 => 176 | 239 => 177 | 240 => 178 | 241 => 179 | 242 => 180 | 243 => 181 | 244 => 182 | 245 => 183 | 246 => 185 | 247 => 186 | 248 => 187 | 249 => 188 | n => n, fun n => n⟩
theorem laysn189_at : Go.Proofs.Lays.n189 Try.prog laysn189_ren := {
  mixed := by kernel_rfl
  f125 := Try.func87.trans (congrArg some (by kernel_rfl))
  f128 := Try.func115.trans (congrArg some (by kernel_rfl))
  f129 := Try.func116.trans (congrArg some (by kernel_rfl))
  f189 := Try.func66.trans (congrArg some (by kernel_rfl))
  f215 := Try.func127.trans (congrArg some (by kernel_rfl))
  f216 := Try.func112.trans (congrArg some (by kernel_rfl))
  f257 := Try.func86.trans (congrArg some (by kernel_rfl))
  f294 := Try.func106.trans (congrArg some (by kernel_rfl))
  f295 := Try.func107.trans (congrArg some (by kernel_rfl))
  f296 := Try.func108.trans (congrArg some (by kernel_rfl))
  f297 := Try.func109.trans (congrArg some (by kernel_rfl))
  f298 := Try.func110.trans (congrArg some (by kernel_rfl))
  f299 := Try.func111.trans (congrArg some (by kernel_rfl))
  f300 := Try.func113.trans (congrArg some (by kernel_rfl))
  f301 := Try.func114.trans (congrArg some (by kernel_rfl))
  f328 := Try.func122.trans (congrArg some (by kernel_rfl))
  f329 := Try.func123.trans (congrArg some (by kernel_rfl))
  f330 := Try.func124.trans (congrArg some (by kernel_rfl))
  f331 := Try.func125.trans (congrArg some (by kernel_rfl))
  f332 := Try.func126.trans (congrArg some (by kernel_rfl))
  f343 := Try.func129.trans (congrArg some (by kernel_rfl))
  t0 := Try.underlying0
  a0 := Try.isAgg0
  z0 := Try.sizeOf0
  v0 := Try.zeroValue0
  t3 := Try.underlying3
  a3 := Try.isAgg3
  z3 := Try.sizeOf3
  v3 := Try.zeroValue3
  t4 := Try.underlying4
  a4 := Try.isAgg4
  z4 := Try.sizeOf4
  v4 := Try.zeroValue4
  t5 := Try.underlying5
  a5 := Try.isAgg5
  z5 := Try.sizeOf5
  v5 := Try.zeroValue5
  t9 := Try.underlying9
  a9 := Try.isAgg9
  z9 := Try.sizeOf9
  v9 := Try.zeroValue9
  t28 := Try.underlying24
  a28 := Try.isAgg24
  z28 := Try.sizeOf24
  v28 := Try.zeroValue24
  t46 := Try.underlying130
  a46 := Try.isAgg130
  z46 := Try.sizeOf130
  v46 := Try.zeroValue130
  t51 := Try.underlying158
  a51 := Try.isAgg158
  z51 := Try.sizeOf158
  v51 := Try.zeroValue158
  t53 := Try.underlying160
  a53 := Try.isAgg160
  z53 := Try.sizeOf160
  v53 := Try.zeroValue160
  t131 := Try.underlying43
  a131 := Try.isAgg43
  z131 := Try.sizeOf43
  v131 := Try.zeroValue43
  t182 := Try.underlying151
  a182 := Try.isAgg151
  z182 := Try.sizeOf151
  v182 := Try.zeroValue151
  t183 := Try.underlying152
  a183 := Try.isAgg152
  z183 := Try.sizeOf152
  v183 := Try.zeroValue152
  t218 := Try.underlying166
  a218 := Try.isAgg166
  z218 := Try.sizeOf166
  v218 := Try.zeroValue166
  t222 := Try.underlying170
  a222 := Try.isAgg170
  z222 := Try.sizeOf170
  v222 := Try.zeroValue170
  t228 := Try.underlying172
  a228 := Try.isAgg172
  z228 := Try.sizeOf172
  v228 := Try.zeroValue172
  t229 := Try.underlying173
  a229 := Try.isAgg173
  z229 := Try.sizeOf173
  v229 := Try.zeroValue173 }
def lays2n20_ren : Go.Shelf.Ren := ⟨fun | 20 => 41 | n => n, fun | 0 => 0 | 1 => 1 | 2 => 2 | 3 => 3 | 4 => 4 | 5 => 5 | 6 => 6 | 7 => 7 | 8 => 8 | 9 => 9 | 10 => 10 | 11 => 11 | 12 => 12 | 13 => 13 | 14 => 14 | 15 => 15 | 16 => 16 | 17 => 17 | 18 => 18 | 19 => 19 | 20 => 20 | 21 => 21 | 22 => 24 | 23 => 74 | 24 => 138 | 33 => 43 | 36 => 30 | 40 => 130 | 41 => 79 | 42 => 67 | 45 => 96 | 46 => 175 | 47 => 176 | 48 => 177 | 49 => 178 | 50 => 179 | 51 => 180 | 52 => 124 | 53 => 158 | 54 => 181 | 55 => 182 | 56 => 183 | 57 => 184 | 58 => 185 | 59 => 186 | 60 => 187 | 61 => 188 | 62 => 189 | n => n, fun n => n⟩
theorem lays2n20_at : Go.Proofs.Lays2.n20 Try.prog lays2n20_ren := {
  mixed := by kernel_rfl
  f20 := Try.func41.trans (congrArg some (by kernel_rfl))
  t0 := Try.underlying0
  a0 := Try.isAgg0
  z0 := Try.sizeOf0
  v0 := Try.zeroValue0
  t3 := Try.underlying3
  a3 := Try.isAgg3
  z3 := Try.sizeOf3
  v3 := Try.zeroValue3
  t4 := Try.underlying4
  a4 := Try.isAgg4
  z4 := Try.sizeOf4
  v4 := Try.zeroValue4
  t22 := Try.underlying24
  a22 := Try.isAgg24
  z22 := Try.sizeOf24
  v22 := Try.zeroValue24
  i3 := by kernel_rfl }
end Go.Proofs.YtcacohoanlljhaaL
