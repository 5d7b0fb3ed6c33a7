/-
  DERIVED: THE SHELF's CONTRACTS AT THIS DUMP, IN PLAIN WORDS (tools/lay-plain.mjs out of 'TryzMinE.lean', which tools/lay-shelf.mjs wrote): THE SAME DECLARATIONS UNDER THE SAME NAMES: 'import', 'namespace', 'open', 'def', 'theorem' AND NOTHING ELSE: no command of the shelf's: FOR A HAND-IN. Each laying: the table of numbers ('.._ren') and one theorem, a field a fact of the dump's own or the kernel's comparison; each contract: ONE APPLICATION.
-/
import Derived.Shelf.LaysM
import Derived.Shelf.SortM.Plain
import Derived.Shelf.SortM.SortNone
import Derived.Ground.SlgmProg
import Derived.Test.YtaeakdichkhjaaaGreatDoorProg
namespace Go.Proofs
open Go.Shelf
def Tryz.laysSlM5X_ren : Go.Shelf.Ren := ⟨fun | 5 => 223 | 8 => 206 | 7 => 268 | 19 => 249 | 20 => 198 | 10 => 300 | 11 => 301 | 12 => 302 | 13 => 303 | 14 => 304 | 15 => 305 | 16 => 306 | 17 => 307 | 18 => 308 | 30 => 332 | 31 => 274 | 32 => 275 | 33 => 333 | 34 => 334 | 35 => 299 | 40 => 343 | n => n, fun | 23 => 45 | 25 => 2 | 3 => 3 | 32 => 161 | 22 => 45 | 0 => 0 | 44 => 143 | 46 => 124 | 4 => 4 | 36 => 317 | 35 => 316 | 41 => 321 | 5 => 5 | 9 => 9 | 53 => 346 | 57 => 349 | 63 => 382 | 64 => 383 | n => n, fun | n => n⟩
theorem Tryz.laysSlM5X : Go.Proofs.SlLaysM.n5 Tryz.prog Tryz.laysSlM5X_ren := {
  mixed := by kernel_rfl
  f5 := ⟨Tryz.f223.name, by decide, Tryz.func223.trans (congrArg some (by kernel_rfl))⟩
  f7 := ⟨Tryz.f268.name, by decide, Tryz.func268.trans (congrArg some (by kernel_rfl))⟩
  f8 := Tryz.func206.trans (congrArg some (by kernel_rfl))
  f10 := ⟨Tryz.f300.name, by decide, Tryz.func300.trans (congrArg some (by kernel_rfl))⟩
  f11 := ⟨Tryz.f301.name, by decide, Tryz.func301.trans (congrArg some (by kernel_rfl))⟩
  f12 := ⟨Tryz.f302.name, by decide, Tryz.func302.trans (congrArg some (by kernel_rfl))⟩
  f13 := ⟨Tryz.f303.name, by decide, Tryz.func303.trans (congrArg some (by kernel_rfl))⟩
  f14 := ⟨Tryz.f304.name, by decide, Tryz.func304.trans (congrArg some (by kernel_rfl))⟩
  f15 := ⟨Tryz.f305.name, by decide, Tryz.func305.trans (congrArg some (by kernel_rfl))⟩
  f16 := ⟨Tryz.f306.name, by decide, Tryz.func306.trans (congrArg some (by kernel_rfl))⟩
  f17 := ⟨Tryz.f307.name, by decide, Tryz.func307.trans (congrArg some (by kernel_rfl))⟩
  f18 := ⟨Tryz.f308.name, by decide, Tryz.func308.trans (congrArg some (by kernel_rfl))⟩
  f19 := Tryz.func249.trans (congrArg some (by kernel_rfl))
  f20 := Tryz.func198.trans (congrArg some (by kernel_rfl))
  f30 := ⟨Tryz.f332.name, by decide, Tryz.func332.trans (congrArg some (by kernel_rfl))⟩
  f31 := Tryz.func274.trans (congrArg some (by kernel_rfl))
  f32 := Tryz.func275.trans (congrArg some (by kernel_rfl))
  f33 := ⟨Tryz.f333.name, by decide, Tryz.func333.trans (congrArg some (by kernel_rfl))⟩
  f34 := ⟨Tryz.f334.name, by decide, Tryz.func334.trans (congrArg some (by kernel_rfl))⟩
  f35 := ⟨Tryz.f299.name, by decide, Tryz.func299.trans (congrArg some (by kernel_rfl))⟩
  f40 := ⟨Tryz.f343.name, by decide, Tryz.func343.trans (congrArg some (by kernel_rfl))⟩
  t0 := Tryz.underlying0
  a0 := Tryz.isAgg0
  z0 := Tryz.sizeOf0
  v0 := Tryz.zeroValue0
  t3 := Tryz.underlying3
  a3 := Tryz.isAgg3
  z3 := Tryz.sizeOf3
  v3 := Tryz.zeroValue3
  t4 := Tryz.underlying4
  a4 := Tryz.isAgg4
  z4 := Tryz.sizeOf4
  v4 := Tryz.zeroValue4
  t5 := Tryz.underlying5
  a5 := Tryz.isAgg5
  z5 := Tryz.sizeOf5
  v5 := Tryz.zeroValue5
  t9 := Tryz.underlying9
  a9 := Tryz.isAgg9
  z9 := Tryz.sizeOf9
  v9 := Tryz.zeroValue9
  t22 := Tryz.underlying45
  a22 := Tryz.isAgg45
  z22 := Tryz.sizeOf45
  v22 := Tryz.zeroValue45
  t23 := Tryz.underlying45
  a23 := Tryz.isAgg45
  z23 := Tryz.sizeOf45
  v23 := Tryz.zeroValue45
  t25 := Tryz.underlying2
  a25 := Tryz.isAgg2
  z25 := Tryz.sizeOf2
  v25 := Tryz.zeroValue2
  t32 := Tryz.underlying161
  a32 := Tryz.isAgg161
  z32 := Tryz.sizeOf161
  v32 := Tryz.zeroValue161
  t35 := Tryz.underlying316
  a35 := Tryz.isAgg316
  z35 := Tryz.sizeOf316
  v35 := Tryz.zeroValue316
  t36 := Tryz.underlying317
  a36 := Tryz.isAgg317
  z36 := Tryz.sizeOf317
  v36 := Tryz.zeroValue317
  t41 := Tryz.underlying321
  a41 := Tryz.isAgg321
  z41 := Tryz.sizeOf321
  v41 := Tryz.zeroValue321
  t44 := Tryz.underlying143
  a44 := Tryz.isAgg143
  z44 := Tryz.sizeOf143
  v44 := Tryz.zeroValue143
  t46 := Tryz.underlying124
  a46 := Tryz.isAgg124
  z46 := Tryz.sizeOf124
  v46 := Tryz.zeroValue124
  t53 := Tryz.underlying346
  a53 := Tryz.isAgg346
  z53 := Tryz.sizeOf346
  v53 := Tryz.zeroValue346
  t57 := Tryz.underlying349
  a57 := Tryz.isAgg349
  z57 := Tryz.sizeOf349
  v57 := Tryz.zeroValue349
  t63 := Tryz.underlying382
  a63 := Tryz.isAgg382
  z63 := Tryz.sizeOf382
  v63 := Tryz.zeroValue382
  t64 := Tryz.underlying383
  a64 := Tryz.isAgg383
  z64 := Tryz.sizeOf383
  v64 := Tryz.zeroValue383 }
end Go.Proofs
