/- Arguments that came in; what the errors of the library's variables are. -/
import Derived.Test.YteikdcobpfohcaaGreatDoorChecked
import Derived.ProofKit
import Derived.OpenShut
import Derived.LaidMore
import Derived.Lay
import Derived.Lib.LaidTab
import Derived.Deep.SlicePairs
import Derived.Lib.SmallJoins
import Derived.SevenTiedAt
import Derived.Stop.Joined
import Derived.SizedLaws
import Derived.Deep.Slices
import Derived.SliceStrings
import Derived.Test.YteikdcobpfohcaaGreatDoorMkRun
import Derived.Test.YteikdcobpfohcaaGreatDoorMAa
import Derived.Test.YteikdcobpfohcaaGreatDoorMkStn
import Derived.Shelf.Vars
namespace Go.Proofs.YteikdcobpfohcaaGreatDoor
open Go.ChangeShapes Go.WideShapes Go.ChangeAt Go.RowKit

theorem ownKnobNone : ownKnob Tryz.prog.godebug = none := by kernel_rfl

theorem trod_iface_cell {H : Type} {enc : TypeId × Value → H} {P : Program} {w : World} {base fuel : Nat} {spare : Nat → Bool} {held : Bool} {t : TypeId} {cs : List Value} {x : DataW H × List MemPlace} {ms : Array (String × TypeId)} (ht : P.underlying t = some (.interface ms))
    (h : DataW.trod enc P w base spare held fuel t cs = some x) : ∃ ev, cs = [ev] ∧ (ev = .nilIface ∨ ∃ te pe, ev = .iface te pe) := by
  cases fuel with
  | zero => simp [DataW.trod] at h
  | succ n =>
    unfold DataW.trod at h
    rw [ht] at h
    split at h <;> simp_all
theorem err_in_var {W : World} {n : String} {g : Nat} {cs : Array Value} (hg : Tryz.prog.globalNamed n = some g) (hv : W.var? Tryz.prog n = some cs) {fuel : Nat} {x : DataW Unit × List MemPlace}
    (h : DataW.trod (fun _ => ()) Tryz.prog W 0 (fun _ => true) false fuel 71 cs.toList = some x) : ErrIn W g := by
  obtain ⟨ev, hc, he⟩ := trod_iface_cell Tryz.underlying71 h
  unfold World.var? at hv
  rw [hg] at hv
  simp only [Option.bind_some] at hv
  refine ⟨ev, ?_, he⟩
  cases hh : W.heap[g]? with
  | none => rw [hh] at hv; cases hv
  | some o =>
    rw [hh] at hv
    cases o with
    | cells c1 t1 z1 =>
      have e : c1 = cs := Option.some.inj hv
      subst e
      have h0 : c1[0]? = some ev := by rw [← Array.getElem?_toList, hc]; rfl
      simp [World.cell?, hh, h0]
    | _ => simp at hv
end Go.Proofs.YteikdcobpfohcaaGreatDoor
