/- The law ManifBack of the package souklaw13 returns true for every manifest and every text. Condition: the tables of the standard library lie as they are laid. -/
import Derived.Test.YtljmekdilhphaaaGreatDoorBack
import Derived.Test.YtljmekdilhphaaaGreatDoorTie
import Derived.Test.YtljmekdilhphaaaGreatDoorCards
import Derived.ProofKit
import Derived.OpenShut
import Derived.LaidMore
import Derived.Lay
import Derived.Lib.LaidTab
import Derived.Deep.SlicePairs
import Derived.Lib.SmallJoins
import Derived.SevenTiedAt
import Derived.Stop.Joined
namespace Go.Proofs.YtljmekdilhphaaaGreatDoor
open Go.ChangeShapes Go.WideShapes Go.ChangeAt Go.RowKit

theorem ownKnobNone : ownKnob Tryz.prog.godebug = none := by kernel_rfl
theorem laidOutAll : laidOutB Tryz.prog = true := by kernel_rfl

theorem pow_of_laid {W : World} (h : laidMetH Tryz.prog Rows.manifBackRow.laid W) : Pow W := by
  rw [MakeChecks.laidMetH_plain _ _ _ (by kernel_rfl)] at h
  obtain ⟨ps, ⟨_, _, _, _, _, _, _, _, _, _, ⟨_, _, _, _, _, _, _, _, _, _, ⟨g, t, cs, fuel, p, q, hg, ht, hv, hd, _, _⟩, _⟩, _⟩, _, _⟩ := h
  obtain rfl := Option.some.inj ((show Tryz.prog.globalNamed "internal/strconv.uint64pow10" = some 5 by kernel_rfl).symm.trans hg)
  obtain rfl := Option.some.inj ((show (Tryz.prog.globals[5]?).map (·.type) = some 243 by kernel_rfl).symm.trans ht)
  have hc := Lib.cells_of_tab (zs := Lib.pow10Tab) Tryz.underlying243 Tryz.underlying94 (by kernel_rfl) (by kernel_rfl) (show DataW.trod _ _ _ _ _ _ _ _ _ = some (Lib.tabData .u64 Lib.pow10Tab, _) from hd)
  unfold Pow Lib.TabIs
  rw [hv, ← hc]

set_option maxRecDepth 100000 in
/-- A manifest that came in. -/
theorem open_man {H : Type} {enc : TypeId × Value → H} {W : World} {r : Reach} {b0 : Nat} {v : Value} {d : DataW H} {p : List MemPlace} (hv : Value.okWide Tryz.prog W r b0 24 v) (h : DataW.Trod enc Tryz.prog W 0 (fun _ => true) true 24 v d p) :
    ∃ (g : Int) (sv : Value) (l : Segs), v = .agg #[.int .i64 g, sv] ∧ SegsAt W sv l ∧ l.length ≤ maxLen := by
  obtain ⟨v0, v1, y0, y1, n, rfl, _, _, h0, h1⟩ := Joins.open_agg2 Tryz.underlying24 (by kernel_rfl) (by kernel_rfl) hv h
  obtain ⟨g, e0, _, _⟩ := DataW.trod_int Tryz.underlying2 h0
  have e0' : v0 = .int .i64 g := by simpa using e0
  subst e0'
  rcases Deep.open_slice_pairs Tryz.underlying22 Tryz.underlying84 (by kernel_rfl) rfl rfl (by kernel_rfl) (by kernel_rfl) h1 with ⟨hc, _⟩ | ⟨a, len, cap, m, n1, V0, V1, D0, D1, P0, P1, hc, _, hlc, hcm, hm, _, hx⟩
  · have hc' : v1 = .slice none 0 0 := by simpa using hc
    subst hc'
    exact ⟨g, _, [], rfl, ⟨none, 0, rfl, .inl rfl⟩, by simp⟩
  · have hc' : v1 = .slice (some a) len cap := by simpa using hc
    subst hc'
    have hnum : ∀ i, i < len → ∃ x y : Int, W.cell? (a.add (i * 2)) = some (.int .i64 x) ∧ W.cell? (a.add (i * 2 + 1)) = some (.int .i64 y) := fun i hi => by
      obtain ⟨k1, k2, k3, k4⟩ := hx i (by rw [hm]; simp only [if_true]; omega)
      obtain ⟨x, e1, _, _⟩ := DataW.trod_int Tryz.underlying2 k3
      obtain ⟨y, e2, _, _⟩ := DataW.trod_int Tryz.underlying2 k4
      exact ⟨x, y, by rw [k1, List.cons.inj e1 |>.1], by rw [k2, List.cons.inj e2 |>.1]⟩
    by_cases h0 : len = 0
    · subst h0
      exact ⟨g, _, [], rfl, ⟨some a, cap, rfl, .inl rfl⟩, by simp⟩
    · obtain ⟨b, off, spot⟩ := a
      have hspot : spot = none := by
        obtain ⟨x, y, k1, _⟩ := hnum 0 (by omega)
        simpa [Addr.add] using World.cell?_spot k1
      subst hspot
      refine ⟨g, _, (List.range len).map (fun i => (intOf ((W.cell? ⟨b, off + i * 2, none⟩).getD undef), intOf ((W.cell? ⟨b, off + i * 2 + 1, none⟩).getD undef))), rfl, ⟨_, cap, by simp, .inr ⟨b, off, rfl, fun i hi => ?_⟩⟩, by simp; omega⟩
      have hi' : i < len := by simpa using hi
      obtain ⟨x, y, k1, k2⟩ := hnum i hi'
      rw [add_plain] at k1 k2
      have k2' : W.cell? ⟨b, off + i * 2 + 1, none⟩ = some (.int .i64 y) := k2
      simp only [List.getElem_map, List.getElem_range, k1, k2', Option.getD_some, intOf]
      exact ⟨trivial, trivial⟩

set_option maxRecDepth 100000 in
theorem manifBack_lifted (os : Os) (started : os.Started) (H : Type) (enc : TypeId × Value → H) :
    ReturnsInHanded {} Tryz.checked os 4 .any (fun w args => (Rows.manifBackSpec.pre enc Tryz.prog Tryz.f4 [] false w args ∧ laidMetH Tryz.prog Rows.manifBackRow.laid w) ∧ sizedMet enc Tryz.prog Tryz.f4 (OpenSpec.ofChange Rows.manifBackSpec) false w args)
      (Rows.manifBackSpec.post enc Tryz.prog Tryz.f4 false true false false) := by
  refine returnsInHanded_of_change_and (C := Tryz.checked) (X := fun w _ => laidMetH Tryz.prog Rows.manifBackRow.laid w) (fun _ _ _ hh h => h.of_heap hh) ownKnobNone started (by kernel_rfl) Tryz.func4
    (ChangeSpec.witness_shaped (enc := enc) (C := Tryz.checked) (os := os) (X := fun w _ => laidMetH Tryz.prog Rows.manifBackRow.laid w) false (World.laidAll Tryz.prog os Rows.manifBackRow.laid) #[.agg #[.int .i64 0, .slice none 0 0], .string ⟨#[]⟩] 8 (World.laidAll_os _ _ _)
      (World.shaped_of_ZipB (by kernel_rfl) (by kernel_rfl)) (by kernel_rfl) (by kernel_rfl) (by kernel_rfl)
      (by rw [MakeChecks.laidMetH_plain _ _ _ (by kernel_rfl)]; exact laidMet_laidAll _ (by kernel_rfl) (by kernel_rfl))) ?_
  intro W base args ds gs before hval0 hW _ _ hL _
  have hval : ∀ (j : Nat) t v, Tryz.f4.params[j]? = some t → args[j]? = some v → Value.okWide Tryz.prog W .any base t v := hval0
  have hW' := hW
  obtain ⟨p, q, hA0, hV, rfl, _, _⟩ := hW
  have hA : DataW.TrodAll enc Tryz.prog W 0 (fun _ => true) true Tryz.f4.params.toList args.toList ds p := hA0
  rw [Tryz.params4] at hA hval
  obtain ⟨v0, v1, d0, d1, p0, p1, rfl, rfl, rfl, h0, h1⟩ := trodAll_two hA
  obtain ⟨rfl, rfl⟩ := trodVars_none hV
  have hlt : ∀ x ∈ p0 ++ p1, x.block < W.heap.size := fun x hx => by simpa using hW'.lt x (by simpa using hx)
  have hargs0 : ∀ (W' : World), Below W.heap.size W W' → DataW.Trod enc Tryz.prog W' 0 (fun b => decide (b < W.heap.size)) true 24 v0 d0 p0 :=
    fun W' hn => Below.trod laidOutAll (by kernel_rfl) (of_decide_eq_true (by kernel_rfl)) h0 hn (fun x hx => hlt x (by simp [hx]))
  have hargs1 : ∀ (W' : World), Below W.heap.size W W' → DataW.Trod enc Tryz.prog W' 0 (fun b => decide (b < W.heap.size)) true 9 v1 d1 p1 :=
    fun W' hn => Below.trod laidOutAll (by kernel_rfl) (of_decide_eq_true (by kernel_rfl)) h1 hn (fun x hx => hlt x (by simp [hx]))
  obtain ⟨g, sv, l, rfl, hs, hl⟩ := open_man (hval 0 24 v0 rfl rfl) h0
  obtain ⟨s, rfl, rfl, rfl, hss⟩ := ChangeMaps.open_string Tryz.underlying9 (hval 1 9 v1 rfl rfl) h1
  refine (manifBack_any W (pow_of_laid hL) g sv l hs (by unfold maxLen at hl; omega) s (by unfold maxLen at hss; omega)).mono fun e W' ⟨he, hb⟩ => ?_
  subst he
  refine ⟨_, rfl, _, _, _, [], _, [], hW', trodAll_mk1 (shut_bool Tryz.underlying4 _), trodAll_mk2 (hargs0 _ hb) (hargs1 _ hb), rfl, hb.frame _, fun h => by cases h⟩

theorem manifBack_holds : Rows.ManifBackSaid :=
  OpenClaim.holds_of_wide 4 Tryz.f4 rfl rfl rfl rfl rfl rfl rfl ⟨rfl, rfl, rfl, rfl, rfl⟩ rfl rfl rfl rfl rfl (by kernel_rfl) Tryz.func4 (by kernel_rfl)
    (of_decide_eq_true (by kernel_rfl)) (by unfold Func.isWrapper; rw [if_neg (by decide +kernel)]; exact ⟨rfl, rfl⟩)
    (fun os started H enc _ => manifBack_lifted os started H enc)

theorem manifBack_card : Rows.ManifBackCardSaid :=
  Claim7.holds_tied_plain_at .later [] [.data, .data, .data, .data, .pinned] true (true, "1184b5a1ce718a961edd6c721dba56c32f4a4b2fab5465238c97c6b728d18b7a") true manifBack_holds (fun _ h => by cases h) (by kernel_rfl) (fun _ h => by cases h) manifBack_row_tie rfl ⟨rfl, rfl⟩ (by kernel_rfl) rfl
    (fun f fn hf hfn => by
      obtain rfl : f = 4 := Option.some.inj ((show Tryz.prog.funcNamed "souk/souklaw13.ManifBack" = some 4 by kernel_rfl).symm.trans hf) |>.symm
      obtain rfl : fn = Tryz.f4 := (Option.some.inj (Tryz.func4.symm.trans hfn)).symm
      exact ⟨by kernel_rfl, fun j t ht => by
        rw [Tryz.params4] at ht
        have hm : t ∈ [24, 9] := by simpa using Array.mem_of_getElem? ht
        have hall : ([24, 9].all fun u => !Tryz.prog.wantsStandIn u) = true := by kernel_rfl
        exact (show Tryz.prog.wantsStandIn t = false by simpa using List.all_eq_true.1 hall t hm)⟩)
    (by kernel_rfl)
#print axioms manifBack_card

end Go.Proofs.YtljmekdilhphaaaGreatDoor
