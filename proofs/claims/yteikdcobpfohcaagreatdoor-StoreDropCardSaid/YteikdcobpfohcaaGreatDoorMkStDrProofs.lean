/- The law StoreDrop of the package souklaw27 returns true: any files, any number. Condition: the tables and the errors of the standard library lie as they are laid. -/
import Derived.Test.YteikdcobpfohcaaGreatDoorMkStDr
import Derived.Test.YteikdcobpfohcaaGreatDoorMkLfy
namespace Go.Proofs.YteikdcobpfohcaaGreatDoor
open Go.ChangeShapes Go.WideShapes Go.ChangeAt Go.RowKit

theorem laidOutAll : laidOutB Tryz.prog = true := by kernel_rfl

set_option maxRecDepth 100000 in
theorem storeDrop_lifted (os : Os) (started : os.Started) (H : Type) (enc : TypeId × Value → H) :
    ReturnsInHanded {} Tryz.checked os 4 .any (fun w args => (Rows.storeDropSpec.pre enc Tryz.prog Tryz.f4 [] false w args ∧ laidMetH Tryz.prog Rows.storeDropRow.laid w) ∧ sizedMet enc Tryz.prog Tryz.f4 (OpenSpec.ofChange Rows.storeDropSpec) false w args)
      (Rows.storeDropSpec.post enc Tryz.prog Tryz.f4 false true false false) := by
  refine returnsInHanded_of_change_and (C := Tryz.checked) (X := fun w _ => laidMetH Tryz.prog Rows.storeDropRow.laid w) (fun _ _ _ hh h => h.of_heap hh) ownKnobNone started (by kernel_rfl) Tryz.func4
    (ChangeSpec.witness_shaped (enc := enc) (C := Tryz.checked) (os := os) (X := fun w _ => laidMetH Tryz.prog Rows.storeDropRow.laid w) false (World.laidAll Tryz.prog os Rows.storeDropRow.laid) #[.slice none 0 0, .int .i64 0] 8 (World.laidAll_os _ _ _)
      (World.shaped_of_ZipB (by kernel_rfl) (by kernel_rfl)) (by kernel_rfl) (by kernel_rfl) (by kernel_rfl)
      (by rw [MakeChecks.laidMetH_plain _ _ _ (by kernel_rfl)]; exact laidMet_laidAll _ (by kernel_rfl) (by kernel_rfl))) ?_
  intro W base args ds gs before hval0 hW _ hsz hL _
  have hval : ∀ (j : Nat) t v, Tryz.f4.params[j]? = some t → args[j]? = some v → Value.okWide Tryz.prog W .any base t v := hval0
  have hW' := hW
  obtain ⟨p, q, hA0, hV, rfl, _, _⟩ := hW
  have hA : DataW.TrodAll enc Tryz.prog W 0 (fun _ => true) true Tryz.f4.params.toList args.toList ds p := hA0
  rw [Tryz.params4] at hA hval
  obtain ⟨v0, v1, d0, d1, p0, p1, rfl, rfl, rfl, h0, h1⟩ := trodAll_two hA
  obtain ⟨rfl, rfl⟩ := trodVars_none hV
  have hlt : ∀ x ∈ p0 ++ p1, x.block < W.heap.size := fun x hx => by simpa using hW'.lt x (by simpa using hx)
  have hwt : ∀ (j : Nat) t d, ([54, 2] : List TypeId)[j]? = some t → ([d0, d1] : List (DataW H))[j]? = some d → ∀ n ∈ d.weights Tryz.prog t, n ≤ reachBytes := by
    intro j t d ht hd n hn
    have h9 := hsz
    rw [Tryz.params4] at h9
    exact of_decide_eq_true (List.all_eq_true.1 h9 n (DataW.weights_mem_each (j := j) (t := t) (d := d) ht (by simpa using hd) n hn))
  have hargs0 : ∀ (W' : World), Below W.heap.size W W' → DataW.Trod enc Tryz.prog W' 0 (fun b => decide (b < W.heap.size)) true 54 v0 d0 p0 :=
    fun W' hn => Below.trod laidOutAll (by kernel_rfl) (of_decide_eq_true (by kernel_rfl)) h0 hn (fun x hx => hlt x (by simp [hx]))
  have hargs1 : ∀ (W' : World), Below W.heap.size W W' → DataW.Trod enc Tryz.prog W' 0 (fun b => decide (b < W.heap.size)) true 2 v1 d1 p1 :=
    fun W' hn => Below.trod laidOutAll (by kernel_rfl) (of_decide_eq_true (by kernel_rfl)) h1 hn (fun x hx => hlt x (by simp [hx]))
  obtain ⟨fv, hfv⟩ : ∃ x, x = v0 := ⟨_, rfl⟩
  obtain ⟨l, hl, hnl, hsl⟩ := open_files (hval 0 54 v0 rfl rfl) h0 (hwt 0 _ _ rfl rfl)
  obtain ⟨but, rfl, _, _, wbut⟩ := open_int Tryz.underlying2 (hval 1 2 v1 rfl rfl) h1
  obtain ⟨butlo, buthi⟩ : -9223372036854775808 ≤ but ∧ but ≤ 9223372036854775807 := bounds_i64 wbut
  have hreach : reachBytes < 2 ^ 47 := reachBytes_lt
  refine (storeDrop_any W (libz_of_laid hL) v0 l hl (by omega) (fun f hf => by have := hsl f hf; omega) but).mono fun e W' ⟨he, hb⟩ => ?_
  subst he
  exact ⟨_, rfl, _, _, _, [], _, [], hW', trodAll_mk1 (shut_bool Tryz.underlying4 _), trodAll_mk2 (hargs0 _ hb) (hargs1 _ hb), rfl, hb.frame _, fun h => by cases h⟩

theorem storeDrop_closed : joinedFacts Tryz.pinned.checked.prog 4 Tryz.f4 Rows.storeDropSpec Rows.storeDropRow = true := by kernel_rfl
theorem storeDrop_inst : Tryz.f4.isInstance Tryz.pinned.checked.prog Rows.storeDropRow.origin Rows.storeDropRow.targs := of_decide_eq_true (by kernel_rfl)
theorem storeDrop_wrap : Tryz.f4.isWrapper Tryz.pinned.checked.prog Rows.storeDropRow.wrapper Rows.storeDropRow.mainSum := by unfold Func.isWrapper; rw [if_neg (by decide +kernel)]; exact ⟨rfl, rfl⟩
theorem storeDrop_named : Tryz.pinned.checked.prog.funcNamed Rows.storeDropRow.func = some 4 := by kernel_rfl
theorem storeDrop_holds : Rows.StoreDropSaid :=
  OpenClaim.holds_of_wide 4 Tryz.f4 rfl rfl rfl rfl rfl rfl rfl ⟨rfl, rfl, rfl, rfl, rfl⟩ rfl rfl rfl rfl rfl storeDrop_named Tryz.func4 storeDrop_closed storeDrop_inst storeDrop_wrap
    (fun os started H enc _ => storeDrop_lifted os started H enc)

theorem storeDrop_card : Rows.StoreDropCardSaid :=
  Claim7.holds_tied_plain_at .later [] [.data, .data, .data, .data, .sentinel, .sentinel, .pinned] true (true, "3ec73a1a74c798d7bfec1c1dc63670152964b81ca62cf30f42c4c2c93d343e78") true storeDrop_holds (fun _ h => by cases h) (by kernel_rfl) (fun _ h => by cases h) storeDrop_row_tie rfl ⟨rfl, rfl⟩ (by kernel_rfl) rfl
    (fun f fn hf hfn => by
      obtain rfl : f = 4 := Option.some.inj ((show Tryz.prog.funcNamed "souk/souklaw27.StoreDrop" = some 4 by kernel_rfl).symm.trans hf) |>.symm
      obtain rfl : fn = Tryz.f4 := (Option.some.inj (Tryz.func4.symm.trans hfn)).symm
      exact ⟨by kernel_rfl, fun j t ht => by
        rw [Tryz.params4] at ht
        have hm : t ∈ [54, 2] := by simpa using Array.mem_of_getElem? ht
        have hall : ([54, 2].all fun u => !Tryz.prog.wantsStandIn u) = true := by kernel_rfl
        exact (show Tryz.prog.wantsStandIn t = false by simpa using List.all_eq_true.1 hall t hm)⟩)
    (by kernel_rfl)
#print axioms storeDrop_card

end Go.Proofs.YteikdcobpfohcaaGreatDoor
