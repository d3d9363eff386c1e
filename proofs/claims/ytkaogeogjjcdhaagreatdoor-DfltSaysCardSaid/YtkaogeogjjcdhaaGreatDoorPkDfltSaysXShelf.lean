/- The contracts of slices.Sort, slices.Compact and strings.IndexByte, laid over this program (written by the kit's programs). -/
import Derived.Shelf.Small.Strs
import Derived.Shelf.Sort.Plain
import Derived.Shelf.Slices.CompactS
import Derived.Shelf.Slices.In.SortNone
import Derived.Test.YtkaogeogjjcdhaaGreatDoorProg
namespace Go.Proofs
open Go.Shelf
open Go.RowKit in
/-- strings.IndexByte: "IndexByte returns the index of the first instance of c in s, or -1 if c is not present in s.": IT RETURNS 'Lib.indexByte s c'; the world is as it was. (LAID: no walk: one application.) -/
def Tryz.lays190_ren : Go.Shelf.Ren := ⟨fun | 190 => 280 | 125 => 300 | 258 => 299 | 128 => 313 | 129 => 314 | 302 => 304 | 303 => 305 | 304 => 306 | 305 => 307 | 306 => 308 | 307 => 309 | 308 => 310 | 309 => 311 | 310 => 312 | 333 => 316 | 329 => 317 | 330 => 318 | 334 => 319 | 335 => 320 | 336 => 321 | 344 => 322 | n => n, fun | 31 => 29 | 9 => 9 | 3 => 3 | 46 => 154 | 0 => 0 | 51 => 170 | 53 => 39 | 4 => 4 | 183 => 327 | 182 => 326 | 131 => 270 | 5 => 5 | 218 => 334 | 222 => 338 | 228 => 340 | 229 => 341 | n => n, fun | n => n⟩
theorem Tryz.lays190 : Go.Proofs.Lays.n190 Tryz.prog Tryz.lays190_ren := {
  mixed := by kernel_rfl
  f125 := Tryz.func300.trans (congrArg some (by kernel_rfl))
  f128 := Tryz.func313.trans (congrArg some (by kernel_rfl))
  f129 := Tryz.func314.trans (congrArg some (by kernel_rfl))
  f190 := Tryz.func280.trans (congrArg some (by kernel_rfl))
  f258 := Tryz.func299.trans (congrArg some (by kernel_rfl))
  f302 := Tryz.func304.trans (congrArg some (by kernel_rfl))
  f303 := Tryz.func305.trans (congrArg some (by kernel_rfl))
  f304 := Tryz.func306.trans (congrArg some (by kernel_rfl))
  f305 := Tryz.func307.trans (congrArg some (by kernel_rfl))
  f306 := Tryz.func308.trans (congrArg some (by kernel_rfl))
  f307 := Tryz.func309.trans (congrArg some (by kernel_rfl))
  f308 := Tryz.func310.trans (congrArg some (by kernel_rfl))
  f309 := Tryz.func311.trans (congrArg some (by kernel_rfl))
  f310 := Tryz.func312.trans (congrArg some (by kernel_rfl))
  f329 := Tryz.func317.trans (congrArg some (by kernel_rfl))
  f330 := Tryz.func318.trans (congrArg some (by kernel_rfl))
  f333 := Tryz.func316.trans (congrArg some (by kernel_rfl))
  f334 := Tryz.func319.trans (congrArg some (by kernel_rfl))
  f335 := Tryz.func320.trans (congrArg some (by kernel_rfl))
  f336 := Tryz.func321.trans (congrArg some (by kernel_rfl))
  f344 := Tryz.func322.trans (congrArg some (by kernel_rfl))
  t0 := Tryz.underlying0
  a0 := Tryz.isAgg0
  z0 := Tryz.sizeOf0
  v0 := Tryz.zeroValue0
  t3 := Tryz.underlying3
  a3 := Tryz.isAgg3
  z3 := Tryz.sizeOf3
  v3 := Tryz.zeroValue3
  t4 := Tryz.underlying4
  a4 := Tryz.isAgg4
  z4 := Tryz.sizeOf4
  v4 := Tryz.zeroValue4
  t5 := Tryz.underlying5
  a5 := Tryz.isAgg5
  z5 := Tryz.sizeOf5
  v5 := Tryz.zeroValue5
  t9 := Tryz.underlying9
  a9 := Tryz.isAgg9
  z9 := Tryz.sizeOf9
  v9 := Tryz.zeroValue9
  t31 := Tryz.underlying29
  a31 := Tryz.isAgg29
  z31 := Tryz.sizeOf29
  v31 := Tryz.zeroValue29
  t46 := Tryz.underlying154
  a46 := Tryz.isAgg154
  z46 := Tryz.sizeOf154
  v46 := Tryz.zeroValue154
  t51 := Tryz.underlying170
  a51 := Tryz.isAgg170
  z51 := Tryz.sizeOf170
  v51 := Tryz.zeroValue170
  t53 := Tryz.underlying39
  a53 := Tryz.isAgg39
  z53 := Tryz.sizeOf39
  v53 := Tryz.zeroValue39
  t131 := Tryz.underlying270
  a131 := Tryz.isAgg270
  z131 := Tryz.sizeOf270
  v131 := Tryz.zeroValue270
  t182 := Tryz.underlying326
  a182 := Tryz.isAgg326
  z182 := Tryz.sizeOf326
  v182 := Tryz.zeroValue326
  t183 := Tryz.underlying327
  a183 := Tryz.isAgg327
  z183 := Tryz.sizeOf327
  v183 := Tryz.zeroValue327
  t218 := Tryz.underlying334
  a218 := Tryz.isAgg334
  z218 := Tryz.sizeOf334
  v218 := Tryz.zeroValue334
  t222 := Tryz.underlying338
  a222 := Tryz.isAgg338
  z222 := Tryz.sizeOf338
  v222 := Tryz.zeroValue338
  t228 := Tryz.underlying340
  a228 := Tryz.isAgg340
  z228 := Tryz.sizeOf340
  v228 := Tryz.zeroValue340
  t229 := Tryz.underlying341
  a229 := Tryz.isAgg341
  z229 := Tryz.sizeOf341
  v229 := Tryz.zeroValue341 }
open Go.Sort Go.RowKit in
theorem Tryz.slices_Sort_string (blk off cap : Nat) (ss : List (List UInt8)) (w : World) (hH : Holds encStr w blk off ss.toArray) (hblk : blk < w.heap.size) (hsz : ss.length < 4611686018427387904) :
    Calls Tryz.prog 280 #[.slice (some ⟨blk, off, none⟩) ss.length cap] w fun e w' =>
      e = .returned (.tuple #[]) ∧ ∃ n os, w' = grow (putRow encStr (Sort.ahead w n) blk off (ss.mergeSort fun x y => decide (x ≤ y)).toArray) os := Any.slices_Sort_string Tryz.lays190 blk off cap ss w hH hblk hsz
def Tryz.lays194_ren : Go.Shelf.Ren := ⟨fun | 194 => 253 | n => n, fun | 31 => 29 | 9 => 9 | 3 => 3 | 4 => 4 | 0 => 0 | n => n, fun | n => n⟩
theorem Tryz.lays194 : Go.Proofs.Lays.n194 Tryz.prog Tryz.lays194_ren := {
  mixed := by kernel_rfl
  f194 := Tryz.func253.trans (congrArg some (by kernel_rfl))
  t0 := Tryz.underlying0
  a0 := Tryz.isAgg0
  z0 := Tryz.sizeOf0
  v0 := Tryz.zeroValue0
  t3 := Tryz.underlying3
  a3 := Tryz.isAgg3
  z3 := Tryz.sizeOf3
  v3 := Tryz.zeroValue3
  t4 := Tryz.underlying4
  a4 := Tryz.isAgg4
  z4 := Tryz.sizeOf4
  v4 := Tryz.zeroValue4
  t9 := Tryz.underlying9
  a9 := Tryz.isAgg9
  z9 := Tryz.sizeOf9
  v9 := Tryz.zeroValue9
  t31 := Tryz.underlying29
  a31 := Tryz.isAgg29
  z31 := Tryz.sizeOf29
  v31 := Tryz.zeroValue29 }
open Go.RowKit Go.Lib Go.Sort in
/-- slices.Compact at []string: "Compact replaces consecutive runs of equal elements with a single copy. This is like the uniq command found on Unix. Compact modifies the contents of the slice s and returns the modified slice, which may have a smaller length. Compact zeroes the elements between the new length and the original length. The result preserves the nilness of s.": IT RETURNS THE SLICE CUT TO 'Lib.compact zs'; ITS CELLS HOLD 'Lib.compact zs', THEN ZERO VALUES up to the old length; all else is as it was, but for the count of draws. IN THE WORDS OF slices.Sort's CONTRACT ('Holds', 'putRow'): so the everyday 'slices.Sort(xs); xs = slices.Compact(xs)' goes from the one contract to the other. It asks 'zs.length ≤ cap' (every slice's: the reslicing 's[:k]' looks at it). Length 0, nil: '.._empty'. (LAID: no walk: one application.) -/
theorem Tryz.slices_Compact_string (blk off cap : Nat) (zs : List (List UInt8)) (w : World) (hH : Holds encStr w blk off zs.toArray) (hsz : zs.length ≤ 9223372036854775807) (hcap : zs.length ≤ cap) :
    Calls Tryz.prog 253 #[.slice (some ⟨blk, off, none⟩) zs.length cap] w fun e w' => e = .returned (.slice (some ⟨blk, off, none⟩) (Lib.compact zs).length cap) ∧ ∃ q, w' = putRow encStr (Sort.ahead w q) blk off (Lib.compact zs ++ List.replicate (zs.length - (Lib.compact zs).length) []).toArray := Any.slices_Compact_string Tryz.lays194 blk off cap zs w hH hsz hcap
open Go.RowKit Go.Lib Go.Sort in
/-- The same at a slice of length 0, a nil one too: it comes back as it is. (LAID: no walk: one application.) -/
theorem Tryz.slices_Compact_string_empty (a : Option Addr) (cap : Nat) (w : World) :
    Calls Tryz.prog 253 #[.slice a 0 cap] w fun e w' => e = .returned (.slice a 0 cap) ∧ w' = w := Any.slices_Compact_string_empty Tryz.lays194 a cap w
open Go.RowKit Go.Sort in
/-- .. and plain. (LAID: no walk: one application.) -/
theorem Tryz.slices_Sort_string_none (p : Option Addr) (cap : Nat) (w : World) :
    Calls Tryz.prog 280 #[.slice p 0 cap] w fun e w' => e = .returned (.tuple #[]) ∧ w' = w := Any.slices_Sort_string_none Tryz.lays190 p cap w
end Go.Proofs
