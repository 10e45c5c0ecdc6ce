/-
  DERIVED: THE SHELF's CONTRACTS AT THIS DUMP, IN PLAIN WORDS (tools/lay-plain.mjs out of 'TrydShelf.lean', which tools/lay-shelf.mjs wrote): THE SAME DECLARATIONS UNDER THE SAME NAMES: 'import', 'namespace', 'open', 'def', 'theorem' AND NOTHING ELSE: no command of the shelf's: FOR A HAND-IN. Each laying: the table of numbers ('.._ren') and one theorem, a field a fact of the dump's own or the kernel's comparison; each contract: ONE APPLICATION.
-/
import Derived.Shelf.Sort.Plain
import Derived.Ground.Names2Prog
import Derived.Shelf.Slices.CompactI
import Derived.Test.YtapcgokcfmklbaaDoorProg
namespace Go.Proofs
open Go.Shelf
def Tryd.lays189_ren : Go.Shelf.Ren := ⟨fun | 189 => 98 | 125 => 141 | 257 => 140 | 128 => 176 | 129 => 177 | 294 => 167 | 295 => 168 | 296 => 169 | 297 => 170 | 298 => 171 | 299 => 172 | 216 => 173 | 300 => 174 | 301 => 175 | 328 => 214 | 329 => 215 | 330 => 216 | 331 => 217 | 332 => 218 | 215 => 146 | 343 => 244 | n => n, fun | 28 => 22 | 3 => 3 | 46 => 194 | 0 => 0 | 51 => 101 | 53 => 202 | 4 => 4 | 183 => 220 | 182 => 219 | 131 => 169 | 5 => 5 | 9 => 9 | 218 => 247 | 222 => 198 | 228 => 267 | 229 => 141 | n => n, fun | n => n⟩
theorem Tryd.lays189 : Go.Proofs.Lays.n189 Tryd.prog Tryd.lays189_ren := {
  mixed := by kernel_rfl
  f125 := Tryd.func141.trans (congrArg some (by kernel_rfl))
  f128 := Tryd.func176.trans (congrArg some (by kernel_rfl))
  f129 := Tryd.func177.trans (congrArg some (by kernel_rfl))
  f189 := Tryd.func98.trans (congrArg some (by kernel_rfl))
  f215 := Tryd.func146.trans (congrArg some (by kernel_rfl))
  f216 := Tryd.func173.trans (congrArg some (by kernel_rfl))
  f257 := Tryd.func140.trans (congrArg some (by kernel_rfl))
  f294 := Tryd.func167.trans (congrArg some (by kernel_rfl))
  f295 := Tryd.func168.trans (congrArg some (by kernel_rfl))
  f296 := Tryd.func169.trans (congrArg some (by kernel_rfl))
  f297 := Tryd.func170.trans (congrArg some (by kernel_rfl))
  f298 := Tryd.func171.trans (congrArg some (by kernel_rfl))
  f299 := Tryd.func172.trans (congrArg some (by kernel_rfl))
  f300 := Tryd.func174.trans (congrArg some (by kernel_rfl))
  f301 := Tryd.func175.trans (congrArg some (by kernel_rfl))
  f328 := Tryd.func214.trans (congrArg some (by kernel_rfl))
  f329 := Tryd.func215.trans (congrArg some (by kernel_rfl))
  f330 := Tryd.func216.trans (congrArg some (by kernel_rfl))
  f331 := Tryd.func217.trans (congrArg some (by kernel_rfl))
  f332 := Tryd.func218.trans (congrArg some (by kernel_rfl))
  f343 := Tryd.func244.trans (congrArg some (by kernel_rfl))
  t0 := Tryd.underlying0
  a0 := Tryd.isAgg0
  z0 := Tryd.sizeOf0
  v0 := Tryd.zeroValue0
  t3 := Tryd.underlying3
  a3 := Tryd.isAgg3
  z3 := Tryd.sizeOf3
  v3 := Tryd.zeroValue3
  t4 := Tryd.underlying4
  a4 := Tryd.isAgg4
  z4 := Tryd.sizeOf4
  v4 := Tryd.zeroValue4
  t5 := Tryd.underlying5
  a5 := Tryd.isAgg5
  z5 := Tryd.sizeOf5
  v5 := Tryd.zeroValue5
  t9 := Tryd.underlying9
  a9 := Tryd.isAgg9
  z9 := Tryd.sizeOf9
  v9 := Tryd.zeroValue9
  t28 := Tryd.underlying22
  a28 := Tryd.isAgg22
  z28 := Tryd.sizeOf22
  v28 := Tryd.zeroValue22
  t46 := Tryd.underlying194
  a46 := Tryd.isAgg194
  z46 := Tryd.sizeOf194
  v46 := Tryd.zeroValue194
  t51 := Tryd.underlying101
  a51 := Tryd.isAgg101
  z51 := Tryd.sizeOf101
  v51 := Tryd.zeroValue101
  t53 := Tryd.underlying202
  a53 := Tryd.isAgg202
  z53 := Tryd.sizeOf202
  v53 := Tryd.zeroValue202
  t131 := Tryd.underlying169
  a131 := Tryd.isAgg169
  z131 := Tryd.sizeOf169
  v131 := Tryd.zeroValue169
  t182 := Tryd.underlying219
  a182 := Tryd.isAgg219
  z182 := Tryd.sizeOf219
  v182 := Tryd.zeroValue219
  t183 := Tryd.underlying220
  a183 := Tryd.isAgg220
  z183 := Tryd.sizeOf220
  v183 := Tryd.zeroValue220
  t218 := Tryd.underlying247
  a218 := Tryd.isAgg247
  z218 := Tryd.sizeOf247
  v218 := Tryd.zeroValue247
  t222 := Tryd.underlying198
  a222 := Tryd.isAgg198
  z222 := Tryd.sizeOf198
  v222 := Tryd.zeroValue198
  t228 := Tryd.underlying267
  a228 := Tryd.isAgg267
  z228 := Tryd.sizeOf267
  v228 := Tryd.zeroValue267
  t229 := Tryd.underlying141
  a229 := Tryd.isAgg141
  z229 := Tryd.sizeOf141
  v229 := Tryd.zeroValue141 }
open Go.Sort Go.RowKit in
theorem Tryd.slices_Sort_int (blk off cap : Nat) (zs : List Int) (w : World) (hH : Holds (Value.int .i64) w blk off zs.toArray) (hblk : blk < w.heap.size) (hsz : zs.length < 4611686018427387904) :
    Calls Tryd.prog 98 #[.slice (some ⟨blk, off, none⟩) zs.length cap] w fun e w' =>
      e = .returned (.tuple #[]) ∧ ∃ n os, w' = grow (putRow (Value.int .i64) (Sort.ahead w n) blk off (zs.mergeSort fun x y => decide (x ≤ y)).toArray) os := Any.slices_Sort_int Tryd.lays189 blk off cap zs w hH hblk hsz
def Tryd.lays190_ren : Go.Shelf.Ren := ⟨fun | 190 => 106 | 125 => 141 | 258 => 142 | 128 => 176 | 129 => 177 | 302 => 178 | 303 => 179 | 304 => 180 | 305 => 181 | 306 => 182 | 307 => 183 | 308 => 184 | 309 => 185 | 310 => 186 | 333 => 219 | 329 => 215 | 330 => 216 | 334 => 220 | 335 => 221 | 336 => 222 | 344 => 245 | n => n, fun | 31 => 152 | 9 => 9 | 3 => 3 | 46 => 194 | 0 => 0 | 51 => 101 | 53 => 202 | 4 => 4 | 183 => 220 | 182 => 219 | 131 => 169 | 5 => 5 | 218 => 247 | 222 => 198 | 228 => 267 | 229 => 141 | n => n, fun | n => n⟩
theorem Tryd.lays190 : Go.Proofs.Lays.n190 Tryd.prog Tryd.lays190_ren := {
  mixed := by kernel_rfl
  f125 := Tryd.func141.trans (congrArg some (by kernel_rfl))
  f128 := Tryd.func176.trans (congrArg some (by kernel_rfl))
  f129 := Tryd.func177.trans (congrArg some (by kernel_rfl))
  f190 := Tryd.func106.trans (congrArg some (by kernel_rfl))
  f258 := Tryd.func142.trans (congrArg some (by kernel_rfl))
  f302 := Tryd.func178.trans (congrArg some (by kernel_rfl))
  f303 := Tryd.func179.trans (congrArg some (by kernel_rfl))
  f304 := Tryd.func180.trans (congrArg some (by kernel_rfl))
  f305 := Tryd.func181.trans (congrArg some (by kernel_rfl))
  f306 := Tryd.func182.trans (congrArg some (by kernel_rfl))
  f307 := Tryd.func183.trans (congrArg some (by kernel_rfl))
  f308 := Tryd.func184.trans (congrArg some (by kernel_rfl))
  f309 := Tryd.func185.trans (congrArg some (by kernel_rfl))
  f310 := Tryd.func186.trans (congrArg some (by kernel_rfl))
  f329 := Tryd.func215.trans (congrArg some (by kernel_rfl))
  f330 := Tryd.func216.trans (congrArg some (by kernel_rfl))
  f333 := Tryd.func219.trans (congrArg some (by kernel_rfl))
  f334 := Tryd.func220.trans (congrArg some (by kernel_rfl))
  f335 := Tryd.func221.trans (congrArg some (by kernel_rfl))
  f336 := Tryd.func222.trans (congrArg some (by kernel_rfl))
  f344 := Tryd.func245.trans (congrArg some (by kernel_rfl))
  t0 := Tryd.underlying0
  a0 := Tryd.isAgg0
  z0 := Tryd.sizeOf0
  v0 := Tryd.zeroValue0
  t3 := Tryd.underlying3
  a3 := Tryd.isAgg3
  z3 := Tryd.sizeOf3
  v3 := Tryd.zeroValue3
  t4 := Tryd.underlying4
  a4 := Tryd.isAgg4
  z4 := Tryd.sizeOf4
  v4 := Tryd.zeroValue4
  t5 := Tryd.underlying5
  a5 := Tryd.isAgg5
  z5 := Tryd.sizeOf5
  v5 := Tryd.zeroValue5
  t9 := Tryd.underlying9
  a9 := Tryd.isAgg9
  z9 := Tryd.sizeOf9
  v9 := Tryd.zeroValue9
  t31 := Tryd.underlying152
  a31 := Tryd.isAgg152
  z31 := Tryd.sizeOf152
  v31 := Tryd.zeroValue152
  t46 := Tryd.underlying194
  a46 := Tryd.isAgg194
  z46 := Tryd.sizeOf194
  v46 := Tryd.zeroValue194
  t51 := Tryd.underlying101
  a51 := Tryd.isAgg101
  z51 := Tryd.sizeOf101
  v51 := Tryd.zeroValue101
  t53 := Tryd.underlying202
  a53 := Tryd.isAgg202
  z53 := Tryd.sizeOf202
  v53 := Tryd.zeroValue202
  t131 := Tryd.underlying169
  a131 := Tryd.isAgg169
  z131 := Tryd.sizeOf169
  v131 := Tryd.zeroValue169
  t182 := Tryd.underlying219
  a182 := Tryd.isAgg219
  z182 := Tryd.sizeOf219
  v182 := Tryd.zeroValue219
  t183 := Tryd.underlying220
  a183 := Tryd.isAgg220
  z183 := Tryd.sizeOf220
  v183 := Tryd.zeroValue220
  t218 := Tryd.underlying247
  a218 := Tryd.isAgg247
  z218 := Tryd.sizeOf247
  v218 := Tryd.zeroValue247
  t222 := Tryd.underlying198
  a222 := Tryd.isAgg198
  z222 := Tryd.sizeOf198
  v222 := Tryd.zeroValue198
  t228 := Tryd.underlying267
  a228 := Tryd.isAgg267
  z228 := Tryd.sizeOf267
  v228 := Tryd.zeroValue267
  t229 := Tryd.underlying141
  a229 := Tryd.isAgg141
  z229 := Tryd.sizeOf141
  v229 := Tryd.zeroValue141 }
open Go.Sort Go.RowKit in
theorem Tryd.slices_Sort_string (blk off cap : Nat) (ss : List (List UInt8)) (w : World) (hH : Holds encStr w blk off ss.toArray) (hblk : blk < w.heap.size) (hsz : ss.length < 4611686018427387904) :
    Calls Tryd.prog 106 #[.slice (some ⟨blk, off, none⟩) ss.length cap] w fun e w' =>
      e = .returned (.tuple #[]) ∧ ∃ n os, w' = grow (putRow encStr (Sort.ahead w n) blk off (ss.mergeSort fun x y => decide (x ≤ y)).toArray) os := Any.slices_Sort_string Tryd.lays190 blk off cap ss w hH hblk hsz
def Tryd.laysNm220_ren : Go.Shelf.Ren := ⟨fun | 20 => 99 | n => n, fun | 22 => 22 | 3 => 3 | 4 => 4 | 0 => 0 | n => n, fun | n => n⟩
theorem Tryd.laysNm220 : Go.Proofs.Lays2.n20 Tryd.prog Tryd.laysNm220_ren := {
  mixed := by kernel_rfl
  f20 := Tryd.func99.trans (congrArg some (by kernel_rfl))
  t0 := Tryd.underlying0
  a0 := Tryd.isAgg0
  z0 := Tryd.sizeOf0
  v0 := Tryd.zeroValue0
  t3 := Tryd.underlying3
  a3 := Tryd.isAgg3
  z3 := Tryd.sizeOf3
  v3 := Tryd.zeroValue3
  t4 := Tryd.underlying4
  a4 := Tryd.isAgg4
  z4 := Tryd.sizeOf4
  v4 := Tryd.zeroValue4
  t22 := Tryd.underlying22
  a22 := Tryd.isAgg22
  z22 := Tryd.sizeOf22
  v22 := Tryd.zeroValue22
  i3 := by kernel_rfl }
open Go.RowKit Go.Lib Go.Sort in
/-- slices.Compact at []int, over an array: the library's two loops are walked. (LAID: no walk: one application.) -/
theorem Tryd.slices_Compact_int_arr (blk off cap : Nat) (d : Array Int) (w : World) (hH : Holds encI w blk off d) (hsz : d.size ≤ 9223372036854775807) (hcap : d.size ≤ cap) :
    Calls Tryd.prog 99 #[.slice (some ⟨blk, off, none⟩) d.size cap] w fun e w' => e = .returned (.slice (some ⟨blk, off, none⟩) (compactUpTo d d.size).length cap) ∧ ∃ q, w' = putRow encI (Sort.ahead w q) blk off (compactUpTo d d.size ++ List.replicate (d.size - (compactUpTo d d.size).length) 0).toArray := Any.slices_Compact_int_arr Tryd.laysNm220 blk off cap d w hH hsz hcap
open Go.RowKit Go.Lib Go.Sort in
/-- slices.Compact at []int: "Compact replaces consecutive runs of equal elements with a single copy. This is like the uniq command found on Unix. Compact modifies the contents of the slice s and returns the modified slice, which may have a smaller length. Compact zeroes the elements between the new length and the original length. The result preserves the nilness of s.": IT RETURNS THE SLICE CUT TO 'Lib.compact zs'; ITS CELLS HOLD 'Lib.compact zs', THEN ZERO VALUES up to the old length; all else is as it was, but for the count of draws. IN THE WORDS OF slices.Sort's CONTRACT ('Holds', 'putRow'): so the everyday 'slices.Sort(xs); xs = slices.Compact(xs)' goes from the one contract to the other. It asks 'zs.length ≤ cap' (every slice's: the reslicing 's[:k]' looks at it). Length 0, nil: '.._empty'. (LAID: no walk: one application.) -/
theorem Tryd.slices_Compact_int (blk off cap : Nat) (zs : List Int) (w : World) (hH : Holds (Value.int .i64) w blk off zs.toArray) (hsz : zs.length ≤ 9223372036854775807) (hcap : zs.length ≤ cap) :
    Calls Tryd.prog 99 #[.slice (some ⟨blk, off, none⟩) zs.length cap] w fun e w' => e = .returned (.slice (some ⟨blk, off, none⟩) (Lib.compact zs).length cap) ∧ ∃ q, w' = putRow (Value.int .i64) (Sort.ahead w q) blk off (Lib.compact zs ++ List.replicate (zs.length - (Lib.compact zs).length) 0).toArray := Any.slices_Compact_int Tryd.laysNm220 blk off cap zs w hH hsz hcap
open Go.RowKit Go.Lib Go.Sort in
/-- The same at a slice of length 0, a nil one too: it comes back as it is. (LAID: no walk: one application.) -/
theorem Tryd.slices_Compact_int_empty (a : Option Addr) (cap : Nat) (w : World) :
    Calls Tryd.prog 99 #[.slice a 0 cap] w fun e w' => e = .returned (.slice a 0 cap) ∧ w' = w := Any.slices_Compact_int_empty Tryd.laysNm220 a cap w
end Go.Proofs
