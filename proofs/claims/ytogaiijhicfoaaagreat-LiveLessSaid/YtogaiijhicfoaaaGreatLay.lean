/-
  Where the library's bodies lie in this program, for the kit's contracts (written by klay.py).
-/
import Derived.Shelf.Lays
import Derived.Shelf.Lays2
import Derived.Test.YtogaiijhicfoaaaGreatProg
namespace Go.Proofs.YtogaiijhicfoaaaGreatL
set_option maxRecDepth 100000
open Go.Shelf Go.Proofs
def laysn189_ren : Go.Shelf.Ren := ⟨fun | 125 => 193 | 128 => 230 | 129 => 231 | 189 => 144 | 215 => 269 | 216 => 227 | 257 => 192 | 294 => 221 | 295 => 222 | 296 => 223 | 297 => 224 | 298 => 225 | 299 => 226 | 300 => 228 | 301 => 229 | 328 => 264 | 329 => 265 | 330 => 266 | 331 => 267 | 332 => 268 | 343 => 299 | n => n, fun | 0 => 0 | 1 => 1 | 2 => 2 | 3 => 3 | 4 => 4 | 5 => 5 | 6 => 6 | 7 => 7 | 8 => 8 | 9 => 9 | 10 => 10 | 11 => 11 | 12 => 12 | 13 => 13 | 14 => 14 | 15 => 15 | 16 => 16 | 17 => 17 | 18 => 18 | 19 => 19 | 20 => 20 | 21 => 21 | 28 => 42 | 29 => 160 | 30 => 202 | 31 => 243 | 34 => 60 | 35 => 159 | 37 => 252 | 43 => 172 | 46 => 201 | 47 => 200 | 51 => 239 | 52 => 238 | 53 => 241 | 54 => 240 | 73 => 264 | 80 => 294 | 81 => 185 | 83 => 196 | 111 => 124 | 112 => 129 | 114 => 161 | 127 => 303 | 131 => 226 | 132 => 227 | 134 => 199 | 164 => 308 | 181 => 231 | 182 => 232 | 183 => 233 | 184 => 234 | 185 => 235 | 186 => 236 | 187 => 237 | 218 => 257 | 219 => 258 | 220 => 259 | 221 => 260 | 222 => 261 | 223 => 262 | 228 => 280 | 229 => 281 | 230 => 282 | 238 => 295 | 239 => 296 | 240 => 297 | 241 => 298 | 242 => 299 | 243 => 300 | 244 => 301 | 245 => 302 | 246 => 304 | 247 => 305 | 248 => 306 | 249 => 307 | n => n, fun n => n⟩
theorem laysn189_at : Go.Proofs.Lays.n189 Tryz.prog laysn189_ren := {
  mixed := by kernel_rfl
  f125 := Tryz.func193.trans (congrArg some (by kernel_rfl))
  f128 := Tryz.func230.trans (congrArg some (by kernel_rfl))
  f129 := Tryz.func231.trans (congrArg some (by kernel_rfl))
  f189 := Tryz.func144.trans (congrArg some (by kernel_rfl))
  f215 := Tryz.func269.trans (congrArg some (by kernel_rfl))
  f216 := Tryz.func227.trans (congrArg some (by kernel_rfl))
  f257 := Tryz.func192.trans (congrArg some (by kernel_rfl))
  f294 := Tryz.func221.trans (congrArg some (by kernel_rfl))
  f295 := Tryz.func222.trans (congrArg some (by kernel_rfl))
  f296 := Tryz.func223.trans (congrArg some (by kernel_rfl))
  f297 := Tryz.func224.trans (congrArg some (by kernel_rfl))
  f298 := Tryz.func225.trans (congrArg some (by kernel_rfl))
  f299 := Tryz.func226.trans (congrArg some (by kernel_rfl))
  f300 := Tryz.func228.trans (congrArg some (by kernel_rfl))
  f301 := Tryz.func229.trans (congrArg some (by kernel_rfl))
  f328 := Tryz.func264.trans (congrArg some (by kernel_rfl))
  f329 := Tryz.func265.trans (congrArg some (by kernel_rfl))
  f330 := Tryz.func266.trans (congrArg some (by kernel_rfl))
  f331 := Tryz.func267.trans (congrArg some (by kernel_rfl))
  f332 := Tryz.func268.trans (congrArg some (by kernel_rfl))
  f343 := Tryz.func299.trans (congrArg some (by kernel_rfl))
  t0 := Tryz.underlying0
  a0 := Tryz.isAgg0
  z0 := Tryz.sizeOf0
  v0 := Tryz.zeroValue0
  t3 := Tryz.underlying3
  a3 := Tryz.isAgg3
  z3 := Tryz.sizeOf3
  v3 := Tryz.zeroValue3
  t4 := Tryz.underlying4
  a4 := Tryz.isAgg4
  z4 := Tryz.sizeOf4
  v4 := Tryz.zeroValue4
  t5 := Tryz.underlying5
  a5 := Tryz.isAgg5
  z5 := Tryz.sizeOf5
  v5 := Tryz.zeroValue5
  t9 := Tryz.underlying9
  a9 := Tryz.isAgg9
  z9 := Tryz.sizeOf9
  v9 := Tryz.zeroValue9
  t28 := Tryz.underlying42
  a28 := Tryz.isAgg42
  z28 := Tryz.sizeOf42
  v28 := Tryz.zeroValue42
  t46 := Tryz.underlying201
  a46 := Tryz.isAgg201
  z46 := Tryz.sizeOf201
  v46 := Tryz.zeroValue201
  t51 := Tryz.underlying239
  a51 := Tryz.isAgg239
  z51 := Tryz.sizeOf239
  v51 := Tryz.zeroValue239
  t53 := Tryz.underlying241
  a53 := Tryz.isAgg241
  z53 := Tryz.sizeOf241
  v53 := Tryz.zeroValue241
  t131 := Tryz.underlying226
  a131 := Tryz.isAgg226
  z131 := Tryz.sizeOf226
  v131 := Tryz.zeroValue226
  t182 := Tryz.underlying232
  a182 := Tryz.isAgg232
  z182 := Tryz.sizeOf232
  v182 := Tryz.zeroValue232
  t183 := Tryz.underlying233
  a183 := Tryz.isAgg233
  z183 := Tryz.sizeOf233
  v183 := Tryz.zeroValue233
  t218 := Tryz.underlying257
  a218 := Tryz.isAgg257
  z218 := Tryz.sizeOf257
  v218 := Tryz.zeroValue257
  t222 := Tryz.underlying261
  a222 := Tryz.isAgg261
  z222 := Tryz.sizeOf261
  v222 := Tryz.zeroValue261
  t228 := Tryz.underlying280
  a228 := Tryz.isAgg280
  z228 := Tryz.sizeOf280
  v228 := Tryz.zeroValue280
  t229 := Tryz.underlying281
  a229 := Tryz.isAgg281
  z229 := Tryz.sizeOf281
  v229 := Tryz.zeroValue281 }
def lays2n20_ren : Go.Shelf.Ren := ⟨fun | 20 => 145 | n => n, fun | 0 => 0 | 1 => 1 | 2 => 2 | 3 => 3 | 4 => 4 | 5 => 5 | 6 => 6 | 7 => 7 | 8 => 8 | 9 => 9 | 10 => 10 | 11 => 11 | 12 => 12 | 13 => 13 | 14 => 14 | 15 => 15 | 16 => 16 | 17 => 17 | 18 => 18 | 19 => 19 | 20 => 20 | 21 => 21 | 22 => 42 | 23 => 158 | 24 => 243 | 33 => 226 | 36 => 60 | 40 => 201 | 41 => 129 | 42 => 124 | 45 => 159 | 46 => 294 | 47 => 295 | 48 => 296 | 49 => 297 | 50 => 298 | 51 => 299 | 52 => 185 | 53 => 239 | 54 => 300 | 55 => 301 | 56 => 302 | 57 => 303 | 58 => 304 | 59 => 305 | 60 => 306 | 61 => 307 | 62 => 308 | n => n, fun n => n⟩
theorem lays2n20_at : Go.Proofs.Lays2.n20 Tryz.prog lays2n20_ren := {
  mixed := by kernel_rfl
  f20 := Tryz.func145.trans (congrArg some (by kernel_rfl))
  t0 := Tryz.underlying0
  a0 := Tryz.isAgg0
  z0 := Tryz.sizeOf0
  v0 := Tryz.zeroValue0
  t3 := Tryz.underlying3
  a3 := Tryz.isAgg3
  z3 := Tryz.sizeOf3
  v3 := Tryz.zeroValue3
  t4 := Tryz.underlying4
  a4 := Tryz.isAgg4
  z4 := Tryz.sizeOf4
  v4 := Tryz.zeroValue4
  t22 := Tryz.underlying42
  a22 := Tryz.isAgg42
  z22 := Tryz.sizeOf42
  v22 := Tryz.zeroValue42
  i3 := by kernel_rfl }
end Go.Proofs.YtogaiijhicfoaaaGreatL
