/-
  DERIVED: THE SHELF's CONTRACTS AT THIS DUMP, IN PLAIN WORDS (tools/lay-plain.mjs out of 'TryzIterS.lean', which tools/lay-shelf.mjs wrote): THE SAME DECLARATIONS UNDER THE SAME NAMES: 'import', 'namespace', 'open', 'def', 'theorem' AND NOTHING ELSE: no command of the shelf's: FOR A HAND-IN. Each laying: the table of numbers ('.._ren') and one theorem, a field a fact of the dump's own or the kernel's comparison; each contract: ONE APPLICATION.
-/
import Derived.Shelf.SlGeneric
import Derived.Shelf.SlIter.Nil
import Derived.Shelf.SortM.Plain
import Derived.Shelf.SortM.SortNone
import Derived.Ground.GgzProg
import Derived.Ground.SlgmProg
import Derived.Test.YthponidjednfbaaGreatDoorProg
namespace Go.Proofs
open Go.Shelf
def Tryz.keys334_ren : Go.Shelf.Ren := ⟨fun | 7 => 334 | 10 => 390 | n => n, fun | 23 => 159 | 26 => 9 | 3 => 3 | 28 => 437 | 0 => 0 | 27 => 436 | 33 => 160 | 4 => 4 | n => n, fun | n => n⟩
theorem Tryz.keys334 : Go.Proofs.SlLaysZ.n7 Tryz.prog Tryz.keys334_ren := {
  mixed := by kernel_rfl
  f7 := ⟨Tryz.f334.name, by decide, Tryz.func334.trans (congrArg some (by kernel_rfl))⟩
  f10 := ⟨Tryz.f390.name, by decide, Tryz.func390.trans (congrArg some (by kernel_rfl))⟩
  t0 := Tryz.underlying0
  a0 := Tryz.isAgg0
  z0 := Tryz.sizeOf0
  v0 := Tryz.zeroValue0
  t4 := Tryz.underlying4
  a4 := Tryz.isAgg4
  z4 := Tryz.sizeOf4
  v4 := Tryz.zeroValue4
  t23 := Tryz.underlying159
  a23 := Tryz.isAgg159
  z23 := Tryz.sizeOf159
  v23 := Tryz.zeroValue159
  t26 := Tryz.underlying9
  a26 := Tryz.isAgg9
  z26 := Tryz.sizeOf9
  v26 := Tryz.zeroValue9
  t27 := Tryz.underlying436
  a27 := Tryz.isAgg436
  z27 := Tryz.sizeOf436
  v27 := Tryz.zeroValue436
  t28 := Tryz.underlying437
  a28 := Tryz.isAgg437
  z28 := Tryz.sizeOf437
  v28 := Tryz.zeroValue437
  t33 := Tryz.underlying160
  a33 := Tryz.isAgg160
  z33 := Tryz.sizeOf160
  v33 := Tryz.zeroValue160 }
def Tryz.sorted333_ren : Go.Shelf.Ren := ⟨fun | 6 => 333 | 8 => 388 | 9 => 389 | 11 => 420 | 13 => 299 | 12 => 421 | 23 => 367 | 24 => 368 | 14 => 439 | 15 => 440 | 16 => 441 | 17 => 442 | 18 => 443 | 19 => 444 | 20 => 445 | 21 => 446 | 22 => 447 | 25 => 466 | 26 => 407 | 27 => 408 | 28 => 467 | 29 => 468 | 30 => 281 | 31 => 479 | n => n, fun | 26 => 9 | 28 => 437 | 24 => 31 | 0 => 0 | 3 => 3 | 37 => 326 | 48 => 410 | 50 => 177 | 4 => 4 | 40 => 460 | 39 => 459 | 45 => 25 | 5 => 5 | 9 => 9 | 51 => 491 | 55 => 494 | 57 => 513 | 58 => 337 | 33 => 160 | n => n, fun | n => n⟩
theorem Tryz.sorted333 : Go.Proofs.SlLaysZ.n6 Tryz.prog Tryz.sorted333_ren := {
  mixed := by kernel_rfl
  f6 := ⟨Tryz.f333.name, by decide, Tryz.func333.trans (congrArg some (by kernel_rfl))⟩
  f8 := ⟨Tryz.f388.name, by decide, Tryz.func388.trans (congrArg some (by kernel_rfl))⟩
  f11 := ⟨Tryz.f420.name, by decide, Tryz.func420.trans (congrArg some (by kernel_rfl))⟩
  t0 := Tryz.underlying0
  a0 := Tryz.isAgg0
  z0 := Tryz.sizeOf0
  v0 := Tryz.zeroValue0
  t24 := Tryz.underlying31
  a24 := Tryz.isAgg31
  z24 := Tryz.sizeOf31
  v24 := Tryz.zeroValue31
  t26 := Tryz.underlying9
  a26 := Tryz.isAgg9
  z26 := Tryz.sizeOf9
  v26 := Tryz.zeroValue9
  t28 := Tryz.underlying437
  a28 := Tryz.isAgg437
  z28 := Tryz.sizeOf437
  v28 := Tryz.zeroValue437
  i26 := by kernel_rfl }
def Tryz.sort389_ren : Go.Shelf.Ren := ⟨fun | 6 => 389 | 8 => 299 | 9 => 421 | 19 => 367 | 20 => 368 | 21 => 439 | 22 => 440 | 23 => 441 | 24 => 442 | 25 => 443 | 26 => 444 | 27 => 445 | 28 => 446 | 29 => 447 | 36 => 466 | 31 => 407 | 32 => 408 | 37 => 467 | 38 => 468 | 39 => 281 | 41 => 479 | n => n, fun | 27 => 31 | 29 => 9 | 3 => 3 | 32 => 326 | 26 => 31 | 0 => 0 | 44 => 410 | 46 => 177 | 4 => 4 | 36 => 460 | 35 => 459 | 41 => 25 | 5 => 5 | 9 => 9 | 53 => 491 | 57 => 494 | 63 => 513 | 64 => 337 | n => n, fun | n => n⟩
theorem Tryz.sort389 : Go.Proofs.SlLaysM.n6 Tryz.prog Tryz.sort389_ren := {
  mixed := by kernel_rfl
  f6 := ⟨Tryz.f389.name, by decide, Tryz.func389.trans (congrArg some (by kernel_rfl))⟩
  f8 := Tryz.func299.trans (congrArg some (by kernel_rfl))
  f9 := ⟨Tryz.f421.name, by decide, Tryz.func421.trans (congrArg some (by kernel_rfl))⟩
  f19 := Tryz.func367.trans (congrArg some (by kernel_rfl))
  f20 := Tryz.func368.trans (congrArg some (by kernel_rfl))
  f21 := ⟨Tryz.f439.name, by decide, Tryz.func439.trans (congrArg some (by kernel_rfl))⟩
  f22 := ⟨Tryz.f440.name, by decide, Tryz.func440.trans (congrArg some (by kernel_rfl))⟩
  f23 := ⟨Tryz.f441.name, by decide, Tryz.func441.trans (congrArg some (by kernel_rfl))⟩
  f24 := ⟨Tryz.f442.name, by decide, Tryz.func442.trans (congrArg some (by kernel_rfl))⟩
  f25 := ⟨Tryz.f443.name, by decide, Tryz.func443.trans (congrArg some (by kernel_rfl))⟩
  f26 := ⟨Tryz.f444.name, by decide, Tryz.func444.trans (congrArg some (by kernel_rfl))⟩
  f27 := ⟨Tryz.f445.name, by decide, Tryz.func445.trans (congrArg some (by kernel_rfl))⟩
  f28 := ⟨Tryz.f446.name, by decide, Tryz.func446.trans (congrArg some (by kernel_rfl))⟩
  f29 := ⟨Tryz.f447.name, by decide, Tryz.func447.trans (congrArg some (by kernel_rfl))⟩
  f31 := Tryz.func407.trans (congrArg some (by kernel_rfl))
  f32 := Tryz.func408.trans (congrArg some (by kernel_rfl))
  f36 := ⟨Tryz.f466.name, by decide, Tryz.func466.trans (congrArg some (by kernel_rfl))⟩
  f37 := ⟨Tryz.f467.name, by decide, Tryz.func467.trans (congrArg some (by kernel_rfl))⟩
  f38 := ⟨Tryz.f468.name, by decide, Tryz.func468.trans (congrArg some (by kernel_rfl))⟩
  f39 := ⟨Tryz.f281.name, by decide, Tryz.func281.trans (congrArg some (by kernel_rfl))⟩
  f41 := ⟨Tryz.f479.name, by decide, Tryz.func479.trans (congrArg some (by kernel_rfl))⟩
  t0 := Tryz.underlying0
  a0 := Tryz.isAgg0
  z0 := Tryz.sizeOf0
  v0 := Tryz.zeroValue0
  t3 := Tryz.underlying3
  a3 := Tryz.isAgg3
  z3 := Tryz.sizeOf3
  v3 := Tryz.zeroValue3
  t4 := Tryz.underlying4
  a4 := Tryz.isAgg4
  z4 := Tryz.sizeOf4
  v4 := Tryz.zeroValue4
  t5 := Tryz.underlying5
  a5 := Tryz.isAgg5
  z5 := Tryz.sizeOf5
  v5 := Tryz.zeroValue5
  t9 := Tryz.underlying9
  a9 := Tryz.isAgg9
  z9 := Tryz.sizeOf9
  v9 := Tryz.zeroValue9
  t26 := Tryz.underlying31
  a26 := Tryz.isAgg31
  z26 := Tryz.sizeOf31
  v26 := Tryz.zeroValue31
  t27 := Tryz.underlying31
  a27 := Tryz.isAgg31
  z27 := Tryz.sizeOf31
  v27 := Tryz.zeroValue31
  t29 := Tryz.underlying9
  a29 := Tryz.isAgg9
  z29 := Tryz.sizeOf9
  v29 := Tryz.zeroValue9
  t32 := Tryz.underlying326
  a32 := Tryz.isAgg326
  z32 := Tryz.sizeOf326
  v32 := Tryz.zeroValue326
  t35 := Tryz.underlying459
  a35 := Tryz.isAgg459
  z35 := Tryz.sizeOf459
  v35 := Tryz.zeroValue459
  t36 := Tryz.underlying460
  a36 := Tryz.isAgg460
  z36 := Tryz.sizeOf460
  v36 := Tryz.zeroValue460
  t41 := Tryz.underlying25
  a41 := Tryz.isAgg25
  z41 := Tryz.sizeOf25
  v41 := Tryz.zeroValue25
  t44 := Tryz.underlying410
  a44 := Tryz.isAgg410
  z44 := Tryz.sizeOf410
  v44 := Tryz.zeroValue410
  t46 := Tryz.underlying177
  a46 := Tryz.isAgg177
  z46 := Tryz.sizeOf177
  v46 := Tryz.zeroValue177
  t53 := Tryz.underlying491
  a53 := Tryz.isAgg491
  z53 := Tryz.sizeOf491
  v53 := Tryz.zeroValue491
  t57 := Tryz.underlying494
  a57 := Tryz.isAgg494
  z57 := Tryz.sizeOf494
  v57 := Tryz.zeroValue494
  t63 := Tryz.underlying513
  a63 := Tryz.isAgg513
  z63 := Tryz.sizeOf513
  v63 := Tryz.zeroValue513
  t64 := Tryz.underlying337
  a64 := Tryz.isAgg337
  z64 := Tryz.sizeOf337
  v64 := Tryz.zeroValue337 }
open Go.RowKit Go.Maps Go.Sort
theorem Tryz.sorts333 (m : Nat) : AnyZ.SortsIn Tryz.prog Tryz.sorted333_ren Fence.wide m :=
  ⟨fun blk off cap ss W hH hblk hsz => callsIn_wide.2 (AnyM.slices_Sort_string Tryz.sort389 blk off cap ss W hH hblk hsz),
   fun p cap W => callsIn_wide.2 (AnyM.slices_Sort_string_none Tryz.sort389 p cap W)⟩
end Go.Proofs
