/- The closed law StoreNames of the package souklaw27 returns true. Condition: the tables and the errors of the standard library lie as they are laid. -/
import Derived.Test.YteikdcobpfohcaaGreatDoorMkStNm
import Derived.Test.YteikdcobpfohcaaGreatDoorMkLfz
import Derived.Test.YteikdcobpfohcaaGreatDoorTie
import Derived.Test.YteikdcobpfohcaaGreatDoorCards
namespace Go.Proofs.YteikdcobpfohcaaGreatDoor
open Go.ChangeShapes Go.WideShapes Go.ChangeAt Go.RowKit

theorem ns_params : Tryz.f3.params = #[] := by kernel_rfl

theorem libz_of_laid {W : World} (h : laidMetH Tryz.prog Rows.storeNamesRow.laid W) : Libz W := by
  rw [MakeChecks.laidMetH_plain _ _ _ (by kernel_rfl)] at h
  obtain ⟨ps, ⟨_, _, _, _, _, _, _, _, _, _, ⟨_, _, _, _, _, _, _, _, _, _, ⟨g, t, cs, fuel, p, q, hg, ht, hv, hd, ⟨_, _, _, _, _, _, _, _, _, _, ⟨g5, t5, cs5, f5, p5, q5, hg5, ht5, hv5, hd5, ⟨g6, t6, cs6, f6, p6, q6, hg6, ht6, hv6, hd6, _⟩, _⟩, _⟩, _⟩, _⟩, _⟩, _, _⟩ := h
  obtain rfl := Option.some.inj ((show Tryz.prog.globalNamed "internal/strconv.uint64pow10" = some 2 by kernel_rfl).symm.trans hg)
  obtain rfl := Option.some.inj ((show (Tryz.prog.globals[2]?).map (·.type) = some 265 by kernel_rfl).symm.trans ht)
  obtain rfl := Option.some.inj ((show Tryz.prog.globalNamed "strconv.ErrRange" = some 1 by kernel_rfl).symm.trans hg5)
  obtain rfl := Option.some.inj ((show (Tryz.prog.globals[1]?).map (·.type) = some 71 by kernel_rfl).symm.trans ht5)
  obtain rfl := Option.some.inj ((show Tryz.prog.globalNamed "strconv.ErrSyntax" = some 0 by kernel_rfl).symm.trans hg6)
  obtain rfl := Option.some.inj ((show (Tryz.prog.globals[0]?).map (·.type) = some 71 by kernel_rfl).symm.trans ht6)
  have hc := Lib.cells_of_tab (zs := Lib.pow10Tab) Tryz.underlying265 Tryz.underlying101 (by kernel_rfl) (by kernel_rfl) (show DataW.trod _ _ _ _ _ _ _ _ _ = some (Lib.tabData .u64 Lib.pow10Tab, _) from hd)
  refine ⟨?_, err_in_var (by kernel_rfl) hv6 hd6, err_in_var (by kernel_rfl) hv5 hd5⟩
  unfold Pow Lib.TabIs
  rw [hv, ← hc]

set_option maxRecDepth 100000 in
theorem storeNames_lifted (os : Os) (started : os.Started) (H : Type) (enc : TypeId × Value → H) :
    ReturnsInHanded {} Tryz.checked os 3 .any (fun w args => (Rows.storeNamesSpec.pre enc Tryz.prog Tryz.f3 [] false w args ∧ laidMetH Tryz.prog Rows.storeNamesRow.laid w) ∧ sizedMet enc Tryz.prog Tryz.f3 (OpenSpec.ofChange Rows.storeNamesSpec) false w args)
      (Rows.storeNamesSpec.post enc Tryz.prog Tryz.f3 false true false false) := by
  refine returnsInHanded_of_change_and (C := Tryz.checked) (X := fun w _ => laidMetH Tryz.prog Rows.storeNamesRow.laid w) (fun _ _ _ hh h => h.of_heap hh) ownKnobNone started (by kernel_rfl) Tryz.func3
    (ChangeSpec.witness_shaped (enc := enc) (C := Tryz.checked) (os := os) (X := fun w _ => laidMetH Tryz.prog Rows.storeNamesRow.laid w) false (World.laidAll Tryz.prog os Rows.storeNamesRow.laid) #[] 8 (World.laidAll_os _ _ _)
      (World.shaped_of_ZipB (by kernel_rfl) (by kernel_rfl)) (by kernel_rfl) (by kernel_rfl) (by kernel_rfl)
      (by rw [MakeChecks.laidMetH_plain _ _ _ (by kernel_rfl)]; exact laidMet_laidAll _ (by kernel_rfl) (by kernel_rfl))) ?_
  intro W base args ds gs before _ hW _ _ hL _
  have hW' := hW
  obtain ⟨p, q, hA0, hV, rfl, _, _⟩ := hW
  have hA : DataW.TrodAll enc Tryz.prog W 0 (fun _ => true) true Tryz.f3.params.toList args.toList ds p := hA0
  rw [ns_params] at hA
  obtain ⟨rfl, rfl, rfl⟩ := trodAll_none hA
  obtain ⟨rfl, rfl⟩ := trodVars_none hV
  refine (storeNames_any W (libz_of_laid hL)).mono fun e W' ⟨he, hb⟩ => ?_
  subst he
  exact ⟨_, rfl, _, _, _, [], _, [], hW', trodAll_mk1 (shut_bool Tryz.underlying4 _), trodAll_mk0, rfl, hb.frame _, fun h => by cases h⟩

theorem storeNames_closed : joinedFacts Tryz.pinned.checked.prog 3 Tryz.f3 Rows.storeNamesSpec Rows.storeNamesRow = true := by kernel_rfl
theorem storeNames_inst : Tryz.f3.isInstance Tryz.pinned.checked.prog Rows.storeNamesRow.origin Rows.storeNamesRow.targs := of_decide_eq_true (by kernel_rfl)
theorem storeNames_wrap : Tryz.f3.isWrapper Tryz.pinned.checked.prog Rows.storeNamesRow.wrapper Rows.storeNamesRow.mainSum := by unfold Func.isWrapper; rw [if_neg (by decide +kernel)]; exact ⟨rfl, rfl⟩
theorem storeNames_named : Tryz.pinned.checked.prog.funcNamed Rows.storeNamesRow.func = some 3 := by kernel_rfl
theorem storeNames_holds : Rows.StoreNamesSaid :=
  OpenClaim.holds_of_wide 3 Tryz.f3 rfl rfl rfl rfl rfl rfl rfl ⟨rfl, rfl, rfl, rfl, rfl⟩ rfl rfl rfl rfl rfl storeNames_named Tryz.func3 storeNames_closed storeNames_inst storeNames_wrap
    (fun os started H enc _ => storeNames_lifted os started H enc)

theorem storeNames_card : Rows.StoreNamesCardSaid :=
  Claim7.holds_tied_plain_at .later [] [.data, .data, .data, .data, .sentinel, .sentinel, .pinned] true (true, "3ec73a1a74c798d7bfec1c1dc63670152964b81ca62cf30f42c4c2c93d343e78") true storeNames_holds (fun _ h => by cases h) (by kernel_rfl) (fun _ h => by cases h) storeNames_row_tie rfl ⟨rfl, rfl⟩ (by kernel_rfl) rfl
    (fun f fn hf hfn => by
      obtain rfl : f = 3 := Option.some.inj ((show Tryz.prog.funcNamed "souk/souklaw27.StoreNames" = some 3 by kernel_rfl).symm.trans hf) |>.symm
      obtain rfl : fn = Tryz.f3 := (Option.some.inj (Tryz.func3.symm.trans hfn)).symm
      exact ⟨by kernel_rfl, fun j t ht => by
        rw [ns_params] at ht
        simp at ht⟩)
    (by kernel_rfl)
#print axioms storeNames_card

end Go.Proofs.YteikdcobpfohcaaGreatDoor
