/-
  CONTRACTS OF THE LIBRARY's FUNCTIONS at this program, off the kit's shelf (laid by its tools lay-shelf.mjs, lay-plain.mjs): one application each.
-/
import Derived.Shelf.Small.Bits
import Derived.Shelf.Strconv.Itoa0
import Derived.Shelf.Sort.Plain
import Derived.Shelf.Slices.Reverse
import Derived.Ground.Names2Prog
import Derived.Shelf.Slices.Clone
import Derived.Shelf.Slices.SearchI
import Derived.Shelf.Slices.Cells
import Derived.Ground.SlgnProg
import Derived.Shelf.SlicesE.Clone
import Derived.Test.YtockodmbhnlheaaProg
namespace Go.Proofs
open Go.Shelf
def Try.lays191_ren : Go.Shelf.Ren := ⟨fun | 191 => 145 | 189 => 166 | 125 => 180 | 257 => 179 | 128 => 204 | 129 => 205 | 294 => 195 | 295 => 196 | 296 => 197 | 297 => 198 | 298 => 199 | 299 => 200 | 216 => 201 | 300 => 202 | 301 => 203 | 328 => 222 | 329 => 223 | 330 => 224 | 331 => 225 | 332 => 226 | 215 => 227 | 343 => 230 | n => n, fun | 28 => 24 | 0 => 0 | 3 => 3 | 46 => 170 | 51 => 227 | 53 => 229 | 4 => 4 | 183 => 221 | 182 => 220 | 131 => 193 | 5 => 5 | 9 => 9 | 218 => 239 | 222 => 243 | 228 => 245 | 229 => 147 | n => n, fun | n => n⟩
theorem Try.lays191 : Go.Proofs.Lays.n191 Try.prog Try.lays191_ren := {
  mixed := by kernel_rfl
  f125 := Try.func180.trans (congrArg some (by kernel_rfl))
  f128 := Try.func204.trans (congrArg some (by kernel_rfl))
  f129 := Try.func205.trans (congrArg some (by kernel_rfl))
  f189 := Try.func166.trans (congrArg some (by kernel_rfl))
  f191 := Try.func145.trans (congrArg some (by kernel_rfl))
  f215 := Try.func227.trans (congrArg some (by kernel_rfl))
  f216 := Try.func201.trans (congrArg some (by kernel_rfl))
  f257 := Try.func179.trans (congrArg some (by kernel_rfl))
  f294 := Try.func195.trans (congrArg some (by kernel_rfl))
  f295 := Try.func196.trans (congrArg some (by kernel_rfl))
  f296 := Try.func197.trans (congrArg some (by kernel_rfl))
  f297 := Try.func198.trans (congrArg some (by kernel_rfl))
  f298 := Try.func199.trans (congrArg some (by kernel_rfl))
  f299 := Try.func200.trans (congrArg some (by kernel_rfl))
  f300 := Try.func202.trans (congrArg some (by kernel_rfl))
  f301 := Try.func203.trans (congrArg some (by kernel_rfl))
  f328 := Try.func222.trans (congrArg some (by kernel_rfl))
  f329 := Try.func223.trans (congrArg some (by kernel_rfl))
  f330 := Try.func224.trans (congrArg some (by kernel_rfl))
  f331 := Try.func225.trans (congrArg some (by kernel_rfl))
  f332 := Try.func226.trans (congrArg some (by kernel_rfl))
  f343 := Try.func230.trans (congrArg some (by kernel_rfl))
  t0 := Try.underlying0
  a0 := Try.isAgg0
  z0 := Try.sizeOf0
  v0 := Try.zeroValue0
  t3 := Try.underlying3
  a3 := Try.isAgg3
  z3 := Try.sizeOf3
  v3 := Try.zeroValue3
  t4 := Try.underlying4
  a4 := Try.isAgg4
  z4 := Try.sizeOf4
  v4 := Try.zeroValue4
  t5 := Try.underlying5
  a5 := Try.isAgg5
  z5 := Try.sizeOf5
  v5 := Try.zeroValue5
  t9 := Try.underlying9
  a9 := Try.isAgg9
  z9 := Try.sizeOf9
  v9 := Try.zeroValue9
  t28 := Try.underlying24
  a28 := Try.isAgg24
  z28 := Try.sizeOf24
  v28 := Try.zeroValue24
  t46 := Try.underlying170
  a46 := Try.isAgg170
  z46 := Try.sizeOf170
  v46 := Try.zeroValue170
  t51 := Try.underlying227
  a51 := Try.isAgg227
  z51 := Try.sizeOf227
  v51 := Try.zeroValue227
  t53 := Try.underlying229
  a53 := Try.isAgg229
  z53 := Try.sizeOf229
  v53 := Try.zeroValue229
  t131 := Try.underlying193
  a131 := Try.isAgg193
  z131 := Try.sizeOf193
  v131 := Try.zeroValue193
  t182 := Try.underlying220
  a182 := Try.isAgg220
  z182 := Try.sizeOf220
  v182 := Try.zeroValue220
  t183 := Try.underlying221
  a183 := Try.isAgg221
  z183 := Try.sizeOf221
  v183 := Try.zeroValue221
  t218 := Try.underlying239
  a218 := Try.isAgg239
  z218 := Try.sizeOf239
  v218 := Try.zeroValue239
  t222 := Try.underlying243
  a222 := Try.isAgg243
  z222 := Try.sizeOf243
  v222 := Try.zeroValue243
  t228 := Try.underlying245
  a228 := Try.isAgg245
  z228 := Try.sizeOf245
  v228 := Try.zeroValue245
  t229 := Try.underlying147
  a229 := Try.isAgg147
  z229 := Try.sizeOf147
  v229 := Try.zeroValue147 }
open Go.Sort Go.RowKit in
theorem Try.sort_Ints (blk off cap : Nat) (zs : List Int) (w : World) (hH : Holds (Value.int .i64) w blk off zs.toArray) (hblk : blk < w.heap.size) (hsz : zs.length < 4611686018427387904) :
    Calls Try.prog 145 #[.slice (some ⟨blk, off, none⟩) zs.length cap] w fun e w' =>
      e = .returned (.tuple #[]) ∧ ∃ n os, w' = grow (putRow (Value.int .i64) (Sort.ahead w n) blk off (zs.mergeSort fun x y => decide (x ≤ y)).toArray) os := Any.sort_Ints Try.lays191 blk off cap zs w hH hblk hsz
end Go.Proofs
