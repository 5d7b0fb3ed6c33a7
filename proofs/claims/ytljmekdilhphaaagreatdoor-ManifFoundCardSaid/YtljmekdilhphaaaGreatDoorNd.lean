/- The walk of seg.Named. -/
import Derived.Test.YtljmekdilhphaaaGreatDoorNdP
import Derived.Test.YtljmekdilhphaaaGreatDoorShelfB
import Derived.Lib.SmallJoins
namespace Go.Proofs.YtljmekdilhphaaaGreatDoor
open Go.RowKit Go.Shelf

/-- What the library's variable on lengths must be for strings.Cut: some number. -/
def Mxl (w : World) : Prop := ∃ m : Int, w.cell? ⟨0, 0, none⟩ = some (.int .i64 m)
theorem Fr.mxl {S : Nat → Prop} {w w' : World} (hf : Fr S w w') (h : Mxl w) (hs : ¬ S 0) : Mxl w' := by
  obtain ⟨m, h⟩ := h; exact ⟨m, hf.cellAt h hs⟩
theorem below_mxl {w w' : World} (hb : Below w.heap.size w w') (h : Mxl w) : Mxl w' := (Fr.pure (S := fun _ => False) hb).mxl h (fun h => h)

theorem parse_name (s : ByteArray) (u d : Nat) (hs : s.data.toList = padded (u : Int) d) (hu : u < 9223372036854775808) (hz : s.size ≤ 9223372036854775806) (w : World) :
    Calls Tryz.prog 88 #[.string s, .int .i64 10, .int .i64 64] w fun e w' => e = .returned (.tuple #[.int .i64 (u : Int), .nilIface]) ∧ Below w.heap.size w w' := by
  refine (Any.strconv_ParseInt_10_at64_ok Tryz.laysC174 s hz (u : Int) (by rw [hs]; exact parse_padded u d hu) w).mono ?_
  rintro e w' ⟨he, h⟩
  refine ⟨he, ?_⟩
  rcases h with rfl | ⟨t, rfl⟩
  · exact Below.refl _ _
  · exact Joins.below_bytesWorld _ _ _ _ (Nat.le_refl _)

set_option maxRecDepth 100000 in
set_option maxHeartbeats 1000000 in
theorem named_ok (w : World) (hp : Pow w) (hm : Mxl w) (g f : Nat) (hg : g ≤ 99999999) (hf : f ≤ 1048576) (s : ByteArray) (hs : s.data.toList = segName (g : Int) (f : Int)) :
    Calls Tryz.prog 42 #[.string s] w fun e w' => e = .returned (.tuple #[.int .i64 (g : Int), .int .i64 (f : Int), .bool true]) ∧ Below w.heap.size w w' := by
  obtain ⟨mx, hmx⟩ := hm
  have HP := Lib.hid hp
  have HS := Lib.hid hs
  have HE := Lib.hid (segName_eq g f hg hf)
  have hsz : s.size = 20 := by rw [size_of_list hs]; exact segName_len g f hg hf
  clear hp hs
  go_enter Tryz.func42, Tryz.ntmps42
  go_wp2_with fail
  refine (Tryz.strings_TrimPrefix s ⟨#[115]⟩ w).mono ?_
  rintro e w1 ⟨rfl, rfl⟩
  obtain ⟨t, ht⟩ : ∃ t : ByteArray, t = ⟨(Lib.trimPrefix s.data.toList (⟨#[115]⟩ : ByteArray).data.toList).toArray⟩ := ⟨_, rfl⟩
  rw [← ht]
  have htl : t.data.toList = padded (g : Int) 8 ++ 45 :: padded (f : Int) 10 := by
    rw [ht]
    show (Lib.trimPrefix s.data.toList [115]).toArray.toList = _
    rw [HS.out, HE.out, trim_s]
  have HT := Lib.hid htl
  have htz : t.size = 19 := by rw [size_of_list htl, List.length_append, List.length_cons, padded_len g 7 (by omega), padded_len f 9 (by omega)]
  clear ht htl
  go_wp2_with fail
  refine (Tryz.strings_Cut t ⟨#[45]⟩ mx w1 (by omega) hmx).mono ?_
  rintro e w2 ⟨rfl, nd, rfl⟩
  rw [show (⟨#[45]⟩ : ByteArray).data.toList = [45] from rfl, HT.out, cut_dash _ _ (padded_digs g 8)]
  obtain ⟨a, ha⟩ : ∃ a : ByteArray, a = ⟨(padded (g : Int) 8).toArray⟩ := ⟨_, rfl⟩
  obtain ⟨b, hb⟩ : ∃ b : ByteArray, b = ⟨(padded (f : Int) 10).toArray⟩ := ⟨_, rfl⟩
  rw [← ha, ← hb]
  have HA := Lib.hid (show a.data.toList = padded (g : Int) 8 from by rw [ha])
  have HB := Lib.hid (show b.data.toList = padded (f : Int) 10 from by rw [hb])
  have haz : a.size = 8 := by rw [size_of_list HA.out]; exact padded_len g 7 (by omega)
  have hbz : b.size = 10 := by rw [size_of_list HB.out]; exact padded_len f 9 (by omega)
  clear ha hb
  go_wp2_with fail
  refine (parse_name a g 8 HA.out (by omega) (by omega) _).mono ?_
  rintro e w3 ⟨rfl, hb3⟩
  have B3 := Lib.hid (show Below w1.heap.size w1 w3 from ⟨hb3.os, hb3.tape, hb3.output, hb3.size, hb3.block⟩)
  clear hb3
  go_wp2_with fail
  refine (parse_name b f 10 HB.out (by omega) (by omega) _).mono ?_
  rintro e w4 ⟨rfl, hb4⟩
  have B4 := Lib.hid (B3.out.trans (hb4.mono B3.out.size))
  clear hb4
  go_wp2_with fail
  refine (name_any w4 (below_pow B4.out HP.out) (g : Int) (f : Int)).mono ?_
  rintro e w5 ⟨⟨r, hr, rfl⟩, hb5⟩
  have B5 := Lib.hid (B4.out.trans (hb5.mono B4.out.size))
  have heq : (r.toList == s.toList) = true := str_eq_true (by rw [hr, HS.out])
  have hne : (r.toList != s.toList) = false := by unfold bne; rw [heq]; rfl
  clear hb5 hr
  go_wp2
  go_ret3
  exact ⟨rfl, B5.out⟩
end Go.Proofs.YtljmekdilhphaaaGreatDoor
