/-
  DERIVED: THE SHELF's CONTRACTS AT THIS DUMP, IN PLAIN WORDS (tools/lay-plain.mjs out of 'TryzMinE.lean', which tools/lay-shelf.mjs wrote): THE SAME DECLARATIONS UNDER THE SAME NAMES: 'import', 'namespace', 'open', 'def', 'theorem' AND NOTHING ELSE: no command of the shelf's: FOR A HAND-IN. Each laying: the table of numbers ('.._ren') and one theorem, a field a fact of the dump's own or the kernel's comparison; each contract: ONE APPLICATION.
-/
import Derived.Shelf.LaysM
import Derived.Shelf.SortM.Plain
import Derived.Shelf.SortM.SortNone
import Derived.Ground.SlgmProg
import Derived.Test.YteikdcobpfohcaaGreatDoorProg
namespace Go.Proofs
open Go.Shelf
def Tryz.laysSlM5X_ren : Go.Shelf.Ren := ⟨fun | 5 => 211 | 8 => 201 | 7 => 254 | 19 => 240 | 20 => 189 | 10 => 289 | 11 => 290 | 12 => 291 | 13 => 292 | 14 => 293 | 15 => 294 | 16 => 295 | 17 => 296 | 18 => 297 | 30 => 321 | 31 => 264 | 32 => 265 | 33 => 322 | 34 => 323 | 35 => 288 | 40 => 333 | n => n, fun | 23 => 26 | 25 => 2 | 3 => 3 | 32 => 128 | 22 => 26 | 0 => 0 | 44 => 110 | 46 => 101 | 4 => 4 | 36 => 309 | 35 => 308 | 41 => 313 | 5 => 5 | 9 => 9 | 53 => 335 | 57 => 338 | 63 => 371 | 64 => 372 | n => n, fun | n => n⟩
theorem Tryz.laysSlM5X : Go.Proofs.SlLaysM.n5 Tryz.prog Tryz.laysSlM5X_ren := {
  mixed := by kernel_rfl
  f5 := ⟨Tryz.f211.name, by decide, Tryz.func211.trans (congrArg some (by kernel_rfl))⟩
  f7 := ⟨Tryz.f254.name, by decide, Tryz.func254.trans (congrArg some (by kernel_rfl))⟩
  f8 := Tryz.func201.trans (congrArg some (by kernel_rfl))
  f10 := ⟨Tryz.f289.name, by decide, Tryz.func289.trans (congrArg some (by kernel_rfl))⟩
  f11 := ⟨Tryz.f290.name, by decide, Tryz.func290.trans (congrArg some (by kernel_rfl))⟩
  f12 := ⟨Tryz.f291.name, by decide, Tryz.func291.trans (congrArg some (by kernel_rfl))⟩
  f13 := ⟨Tryz.f292.name, by decide, Tryz.func292.trans (congrArg some (by kernel_rfl))⟩
  f14 := ⟨Tryz.f293.name, by decide, Tryz.func293.trans (congrArg some (by kernel_rfl))⟩
  f15 := ⟨Tryz.f294.name, by decide, Tryz.func294.trans (congrArg some (by kernel_rfl))⟩
  f16 := ⟨Tryz.f295.name, by decide, Tryz.func295.trans (congrArg some (by kernel_rfl))⟩
  f17 := ⟨Tryz.f296.name, by decide, Tryz.func296.trans (congrArg some (by kernel_rfl))⟩
  f18 := ⟨Tryz.f297.name, by decide, Tryz.func297.trans (congrArg some (by kernel_rfl))⟩
  f19 := Tryz.func240.trans (congrArg some (by kernel_rfl))
  f20 := Tryz.func189.trans (congrArg some (by kernel_rfl))
  f30 := ⟨Tryz.f321.name, by decide, Tryz.func321.trans (congrArg some (by kernel_rfl))⟩
  f31 := Tryz.func264.trans (congrArg some (by kernel_rfl))
  f32 := Tryz.func265.trans (congrArg some (by kernel_rfl))
  f33 := ⟨Tryz.f322.name, by decide, Tryz.func322.trans (congrArg some (by kernel_rfl))⟩
  f34 := ⟨Tryz.f323.name, by decide, Tryz.func323.trans (congrArg some (by kernel_rfl))⟩
  f35 := ⟨Tryz.f288.name, by decide, Tryz.func288.trans (congrArg some (by kernel_rfl))⟩
  f40 := ⟨Tryz.f333.name, by decide, Tryz.func333.trans (congrArg some (by kernel_rfl))⟩
  t0 := Tryz.underlying0
  a0 := Tryz.isAgg0
  z0 := Tryz.sizeOf0
  v0 := Tryz.zeroValue0
  t3 := Tryz.underlying3
  a3 := Tryz.isAgg3
  z3 := Tryz.sizeOf3
  v3 := Tryz.zeroValue3
  t4 := Tryz.underlying4
  a4 := Tryz.isAgg4
  z4 := Tryz.sizeOf4
  v4 := Tryz.zeroValue4
  t5 := Tryz.underlying5
  a5 := Tryz.isAgg5
  z5 := Tryz.sizeOf5
  v5 := Tryz.zeroValue5
  t9 := Tryz.underlying9
  a9 := Tryz.isAgg9
  z9 := Tryz.sizeOf9
  v9 := Tryz.zeroValue9
  t22 := Tryz.underlying26
  a22 := Tryz.isAgg26
  z22 := Tryz.sizeOf26
  v22 := Tryz.zeroValue26
  t23 := Tryz.underlying26
  a23 := Tryz.isAgg26
  z23 := Tryz.sizeOf26
  v23 := Tryz.zeroValue26
  t25 := Tryz.underlying2
  a25 := Tryz.isAgg2
  z25 := Tryz.sizeOf2
  v25 := Tryz.zeroValue2
  t32 := Tryz.underlying128
  a32 := Tryz.isAgg128
  z32 := Tryz.sizeOf128
  v32 := Tryz.zeroValue128
  t35 := Tryz.underlying308
  a35 := Tryz.isAgg308
  z35 := Tryz.sizeOf308
  v35 := Tryz.zeroValue308
  t36 := Tryz.underlying309
  a36 := Tryz.isAgg309
  z36 := Tryz.sizeOf309
  v36 := Tryz.zeroValue309
  t41 := Tryz.underlying313
  a41 := Tryz.isAgg313
  z41 := Tryz.sizeOf313
  v41 := Tryz.zeroValue313
  t44 := Tryz.underlying110
  a44 := Tryz.isAgg110
  z44 := Tryz.sizeOf110
  v44 := Tryz.zeroValue110
  t46 := Tryz.underlying101
  a46 := Tryz.isAgg101
  z46 := Tryz.sizeOf101
  v46 := Tryz.zeroValue101
  t53 := Tryz.underlying335
  a53 := Tryz.isAgg335
  z53 := Tryz.sizeOf335
  v53 := Tryz.zeroValue335
  t57 := Tryz.underlying338
  a57 := Tryz.isAgg338
  z57 := Tryz.sizeOf338
  v57 := Tryz.zeroValue338
  t63 := Tryz.underlying371
  a63 := Tryz.isAgg371
  z63 := Tryz.sizeOf371
  v63 := Tryz.zeroValue371
  t64 := Tryz.underlying372
  a64 := Tryz.isAgg372
  z64 := Tryz.sizeOf372
  v64 := Tryz.zeroValue372 }
end Go.Proofs
