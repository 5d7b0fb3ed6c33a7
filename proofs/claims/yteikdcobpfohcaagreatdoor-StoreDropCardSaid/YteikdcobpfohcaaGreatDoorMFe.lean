/- Snapshots' bytes, and what a write of them leaves of a disk, plainly. -/
import Derived.Test.YteikdcobpfohcaaGreatDoorMFd
import Derived.Test.YteikdcobpfohcaaGreatDoorMFa
import Derived.Test.YteikdcobpfohcaaGreatDoorMkDk11
import Derived.Test.YteikdcobpfohcaaGreatDoorCrcP
namespace Go.Proofs.YteikdcobpfohcaaGreatDoor
open Go.RowKit

/-- A snapshot's bytes: of a number, and a body. -/
def snapBytes (seq : Nat) (body : List UInt8) : List UInt8 := Crc.seal_ ([115, 110, 112, 49] ++ be 8 seq ++ be 4 body.length ++ body)
/-- Where a snapshot is written first. -/
def snFresh : List UInt8 := [83, 78, 65, 80, 83, 72, 79, 84, 46, 110, 101, 119]
/-- What the deferred function makes of a way out. -/
def writeEnd (r : DkSt × Int) : DkSt × Int :=
  if r.2 = 44 then (if (dkDelete r.1 snFresh).2 = 45 then dkDelete r.1 snFresh else ((dkDelete r.1 snFresh).1, 44)) else r
/-- The acts of a write, up to the first that fails. -/
def writeF (st : DkSt) (data name : List UInt8) : DkSt × Int :=
  if (dkDelete st snFresh).2 ≠ 0 ∧ (dkDelete st snFresh).2 ≠ 5 then dkDelete st snFresh else
  if (dkCreate (dkDelete st snFresh).1 snFresh).2 ≠ 0 then dkCreate (dkDelete st snFresh).1 snFresh else
  if (dkAppend (dkCreate (dkDelete st snFresh).1 snFresh).1 snFresh data).2 ≠ 0 then dkAppend (dkCreate (dkDelete st snFresh).1 snFresh).1 snFresh data else
  if (dkSync (dkAppend (dkCreate (dkDelete st snFresh).1 snFresh).1 snFresh data).1 snFresh).2 ≠ 0 then dkSync (dkAppend (dkCreate (dkDelete st snFresh).1 snFresh).1 snFresh data).1 snFresh else
  dkRename (dkSync (dkAppend (dkCreate (dkDelete st snFresh).1 snFresh).1 snFresh data).1 snFresh).1 snFresh name
/-- Write, where the snapshot's bytes are D's, or refused with its code. -/
def dkWrite (st : DkSt) (seq : Int) (D : List UInt8 × Int) : DkSt × Int := if D.2 ≠ 0 then (st, D.2) else writeEnd (writeF st D.1 (snapName seq))
end Go.Proofs.YteikdcobpfohcaaGreatDoor

/- The example of the statements about snapshots' files, plainly. -/
namespace Go.Proofs.YteikdcobpfohcaaGreatDoor
open Go.RowKit

/-- An empty market's body, at a time below 128. -/
def emptyB (c : Nat) : List UInt8 := [UInt8.ofNat c, 0, 1, 1, 0, 0, 0, 0, 0, 0, 0, 0, 0]
def emptyF (seq c : Nat) : List UInt8 := snapBytes seq (emptyB c)
abbrev sn3 : List UInt8 := [110, 48, 48, 48, 48, 48, 48, 48, 48, 48, 51]
def seT : DkSt := ⟨[], 1000, -1, false⟩
def seA : DkSt × Int := dkWrite seT 5 (emptyF 5 50, 0)
def seB : DkSt × Int := dkWrite seA.1 9 (emptyF 9 90, 0)
def seC : DkSt × Int := dkCreate seB.1 sn3
set_option maxRecDepth 100000 in
theorem se_acts : seA.2 = 0 ∧ seB.2 = 0 ∧ seC.2 = 0 ∧ seC.1.dark = false := by decide +kernel
set_option maxRecDepth 100000 in
theorem se_nums : snapNums (seC.1.fs.map (·.name)) = [3, 5, 9] := by rw [← numsC_eq]; decide +kernel
set_option maxRecDepth 100000 in
theorem se_read : dkRead seC.1 (snapName 3) = ([], 0) ∧ dkRead seC.1 (snapName 5) = (emptyF 5 50, 0) := by decide +kernel
/-- The disks that are cut. -/
def seK (cut : Int) : DkSt × Int := dkWrite (dkCut seT cut).1 5 (emptyF 5 50, 0)
def seX (cut : Int) : DkSt := dkCrash (seK cut).1 [99]
set_option maxRecDepth 100000 in
theorem se_cut : (dkCut seT 2).2 = 0 ∧ (dkCut seT 3).2 = 0 ∧ (dkCut seT 4).2 = 0 ∧ (seK 2).2 ≠ 0 ∧ (seK 3).2 ≠ 0 ∧ (seK 4).2 = 0 := by decide +kernel
set_option maxRecDepth 100000 in
theorem se_cutread : dkRead (seX 2) (snapName 5) = ([], 5) ∧ dkRead (seX 3) (snapName 5) = ([], 5) ∧ dkRead (seX 4) (snapName 5) = (emptyF 5 50, 0) := by decide +kernel
end Go.Proofs.YteikdcobpfohcaaGreatDoor
