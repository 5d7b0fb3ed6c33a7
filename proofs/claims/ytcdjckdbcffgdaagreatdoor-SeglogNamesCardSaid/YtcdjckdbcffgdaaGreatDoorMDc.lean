/- The walk of seg.Named. -/
import Derived.Test.YtcdjckdbcffgdaaGreatDoorMAm
import Derived.Test.YtcdjckdbcffgdaaGreatDoorShelfB
import Derived.Lib.SmallJoins
namespace Go.Proofs.YtcdjckdbcffgdaaGreatDoor
open Go.RowKit Go.Shelf

/-- What the library's variable on lengths must be for strings.Cut: some number. -/
def Mxl (w : World) : Prop := ∃ m : Int, w.cell? ⟨0, 0, none⟩ = some (.int .i64 m)
theorem Fr.mxl {S : Nat → Prop} {w w' : World} (hf : Fr S w w') (h : Mxl w) (hs : ¬ S 0) : Mxl w' := by
  obtain ⟨m, h⟩ := h; exact ⟨m, hf.cellAt h hs⟩
theorem below_mxl {w w' : World} (hb : Below w.heap.size w w') (h : Mxl w) : Mxl w' := (Fr.pure (S := fun _ => False) hb).mxl h (fun h => h)

theorem parse_name (s : ByteArray) (u d : Nat) (hs : s.data.toList = padded (u : Int) d) (hu : u < 9223372036854775808) (hz : s.size ≤ 9223372036854775806) (w : World) :
    Calls Tryz.prog 80 #[.string s, .int .i64 10, .int .i64 64] w fun e w' => e = .returned (.tuple #[.int .i64 (u : Int), .nilIface]) ∧ Below w.heap.size w w' := by
  refine (Any.strconv_ParseInt_10_at64_ok Tryz.laysC174 s hz (u : Int) (by rw [hs]; exact parse_padded u d hu) w).mono ?_
  rintro e w' ⟨he, h⟩
  refine ⟨he, ?_⟩
  rcases h with rfl | ⟨t, rfl⟩
  · exact Below.refl _ _
  · exact Joins.below_bytesWorld _ _ _ _ (Nat.le_refl _)

set_option maxRecDepth 100000 in
set_option maxHeartbeats 1000000 in
theorem named_ok (w : World) (hp : Pow w) (hm : Mxl w) (g f : Nat) (hg : g ≤ 99999999) (hf : f ≤ 1048576) (s : ByteArray) (hs : s.data.toList = segName (g : Int) (f : Int)) :
    Calls Tryz.prog 32 #[.string s] w fun e w' => e = .returned (.tuple #[.int .i64 (g : Int), .int .i64 (f : Int), .bool true]) ∧ Below w.heap.size w w' := by
  obtain ⟨mx, hmx⟩ := hm
  have HP := Lib.hid hp
  have HS := Lib.hid hs
  have HE := Lib.hid (segName_eq g f hg hf)
  have hsz : s.size = 20 := by rw [size_of_list hs]; exact segName_len g f hg hf
  clear hp hs
  go_enter Tryz.func32, Tryz.ntmps32
  go_wp2_with fail
  refine (Tryz.strings_TrimPrefix s ⟨#[115]⟩ w).mono ?_
  rintro e w1 ⟨rfl, rfl⟩
  obtain ⟨t, ht⟩ : ∃ t : ByteArray, t = ⟨(Lib.trimPrefix s.data.toList (⟨#[115]⟩ : ByteArray).data.toList).toArray⟩ := ⟨_, rfl⟩
  rw [← ht]
  have htl : t.data.toList = padded (g : Int) 8 ++ 45 :: padded (f : Int) 10 := by
    rw [ht]
    show (Lib.trimPrefix s.data.toList [115]).toArray.toList = _
    rw [HS.out, HE.out, trim_s]
  have HT := Lib.hid htl
  have htz : t.size = 19 := by rw [size_of_list htl, List.length_append, List.length_cons, padded_len g 7 (by omega), padded_len f 9 (by omega)]
  clear ht htl
  go_wp2_with fail
  refine (Tryz.strings_Cut t ⟨#[45]⟩ mx w1 (by omega) hmx).mono ?_
  rintro e w2 ⟨rfl, nd, rfl⟩
  rw [show (⟨#[45]⟩ : ByteArray).data.toList = [45] from rfl, HT.out, cut_dash _ _ (padded_digs g 8)]
  obtain ⟨a, ha⟩ : ∃ a : ByteArray, a = ⟨(padded (g : Int) 8).toArray⟩ := ⟨_, rfl⟩
  obtain ⟨b, hb⟩ : ∃ b : ByteArray, b = ⟨(padded (f : Int) 10).toArray⟩ := ⟨_, rfl⟩
  rw [← ha, ← hb]
  have HA := Lib.hid (show a.data.toList = padded (g : Int) 8 from by rw [ha])
  have HB := Lib.hid (show b.data.toList = padded (f : Int) 10 from by rw [hb])
  have haz : a.size = 8 := by rw [size_of_list HA.out]; exact padded_len g 7 (by omega)
  have hbz : b.size = 10 := by rw [size_of_list HB.out]; exact padded_len f 9 (by omega)
  clear ha hb
  go_wp2_with fail
  refine (parse_name a g 8 HA.out (by omega) (by omega) _).mono ?_
  rintro e w3 ⟨rfl, hb3⟩
  have B3 := Lib.hid (show Below w1.heap.size w1 w3 from ⟨hb3.os, hb3.tape, hb3.output, hb3.size, hb3.block⟩)
  clear hb3
  go_wp2_with fail
  refine (parse_name b f 10 HB.out (by omega) (by omega) _).mono ?_
  rintro e w4 ⟨rfl, hb4⟩
  have B4 := Lib.hid (B3.out.trans (hb4.mono B3.out.size))
  clear hb4
  go_wp2_with fail
  refine (name_any w4 (below_pow B4.out HP.out) (g : Int) (f : Int)).mono ?_
  rintro e w5 ⟨⟨r, hr, rfl⟩, hb5⟩
  have B5 := Lib.hid (B4.out.trans (hb5.mono B4.out.size))
  have heq : (r.toList == s.toList) = true := str_eq_true (by rw [hr, HS.out])
  have hne : (r.toList != s.toList) = false := by unfold bne; rw [heq]; rfl
  clear hb5 hr
  go_wp2
  go_ret3
  exact ⟨rfl, B5.out⟩
end Go.Proofs.YtcdjckdbcffgdaaGreatDoor

/- seg.Named of any text. -/
namespace Go.Proofs.YtcdjckdbcffgdaaGreatDoor
open Go.RowKit Go.Shelf

/-- What the library's variables must be: the errors are some, or none. -/
def ErrAt (w : World) (g : Nat) : Prop := ∃ ev, w.cell? ⟨g, 0, none⟩ = some ev ∧ (ev = .nilIface ∨ ∃ te pe, ev = .iface te pe)
structure Libs (w : World) : Prop where
  pow : Pow w
  mxl : Mxl w
  syn : ErrAt w 1
  rng : ErrAt w 2
theorem ErrAt.kept {S : Nat → Prop} {w w' : World} {g : Nat} (h : ErrAt w g) (hf : Fr S w w') (hs : ¬ S g) : ErrAt w' g := by
  obtain ⟨ev, h1, h2⟩ := h
  exact ⟨ev, hf.cellAt h1 hs, h2⟩
/-- The blocks of the library's variables. -/
def LibB (k : Nat) : Prop := k = 3 ∨ k = 0 ∨ k = 1 ∨ k = 2
theorem Libs.kept {S : Nat → Prop} {w w' : World} (h : Libs w) (hf : Fr S w w') (hs : ∀ k, S k → ¬ LibB k) : Libs w' :=
  ⟨hf.pow h.pow (fun e => hs _ e (.inl rfl)), hf.mxl h.mxl (fun e => hs _ e (.inr (.inl rfl))), h.syn.kept hf (fun e => hs _ e (.inr (.inr (.inl rfl)))), h.rng.kept hf (fun e => hs _ e (.inr (.inr (.inr rfl))))⟩
theorem Libs.pure {w w' : World} (h : Libs w) (hb : Below w.heap.size w w') : Libs w' := h.kept (Fr.pure (S := fun _ => False) hb) (fun _ e => e.elim)
theorem Libs.lt {w : World} (h : Libs w) (k : Nat) (hk : LibB k) : k < w.heap.size := by
  rcases hk with rfl | rfl | rfl | rfl
  · exact pow_lt h.pow
  · obtain ⟨m, h1⟩ := h.mxl; exact ltOfCell h1
  · obtain ⟨ev, h1, _⟩ := h.syn; exact ltOfCell h1
  · obtain ⟨ev, h1, _⟩ := h.rng; exact ltOfCell h1

theorem below_drewN' (w : World) (q : Nat) : Below w.heap.size w (w.drewN q) := ⟨rfl, rfl, rfl, Nat.le_refl _, fun _ _ => rfl⟩
theorem seg_of_name {v1 v2 : Int} (h : segName v1 v2 ≠ []) : isSeg (segName v1 v2) := by
  unfold segName at h
  split at h
  · rename_i hc
    obtain ⟨a, b, c, d⟩ := hc
    exact ⟨v1.toNat, v2.toNat, by omega, by omega, by rw [Int.toNat_of_nonneg a, Int.toNat_of_nonneg c]⟩
  · exact absurd rfl h
theorem cut_le (s p : List UInt8) : (Lib.cut s p).1.length ≤ s.length ∧ (Lib.cut s p).2.1.length ≤ s.length := by
  unfold Lib.cut
  split
  · exact ⟨by rw [List.length_take]; omega, by rw [List.length_drop]; omega⟩
  · exact ⟨Nat.le_refl _, Nat.zero_le _⟩
theorem trim_le (a b : List UInt8) : (Lib.trimPrefix a b).length ≤ a.length := by
  unfold Lib.trimPrefix
  split
  · rw [List.length_drop]; omega
  · exact Nat.le_refl _

/-- ParseInt of any text. -/
theorem parse_any (s : ByteArray) (hz : s.size ≤ 281474976710656) (w : World) (h : Libs w) :
    Calls Tryz.prog 80 #[.string s, .int .i64 10, .int .i64 64] w fun e w' => (∃ (v : Int) (er : Value), e = .returned (.tuple #[.int .i64 v, er])) ∧ Below w.heap.size w w' := by
  cases hp : Lib.parseIntB 64 s.data.toList
  · rename_i v
    refine (Any.strconv_ParseInt_10_at64_ok Tryz.laysC174 s (by omega) v hp w).mono ?_
    rintro e w' ⟨he, h⟩
    refine ⟨⟨v, _, he⟩, ?_⟩
    rcases h with rfl | ⟨t, rfl⟩
    · exact Below.refl _ _
    · exact Joins.below_bytesWorld _ _ _ _ (Nat.le_refl _)
  · obtain ⟨ev, h1, h2⟩ := h.syn
    refine (Any.strconv_ParseInt_10_at64_syntax Tryz.laysC174 s hz hp ev w h1 h2).mono ?_
    rintro e w' ⟨n, he, _, _, hb⟩
    exact ⟨⟨_, _, he⟩, hb⟩
  · obtain ⟨ev, h1, h2⟩ := h.rng
    refine (Any.strconv_ParseInt_10_at64_range Tryz.laysC174 s hz hp ev w h1 h2).mono ?_
    rintro e w' ⟨n, he, _, _, hb⟩
    exact ⟨⟨_, _, he⟩, hb⟩

set_option maxRecDepth 100000 in
set_option maxHeartbeats 1000000 in
theorem named_any (w : World) (h : Libs w) (s : ByteArray) (h1 : 1 ≤ s.size) (h2 : s.size ≤ 1048576) :
    Calls Tryz.prog 32 #[.string s] w fun e w' => (∃ (g f : Int) (b : Bool), (b = true ↔ isSeg s.data.toList) ∧ e = .returned (.tuple #[.int .i64 g, .int .i64 f, .bool b])) ∧ Below w.heap.size w w' := by
  by_cases hseg : isSeg s.data.toList
  · obtain ⟨g, f, hg, hf, hs⟩ := id hseg
    refine (named_ok w h.pow h.mxl g f hg hf s hs).mono ?_
    rintro e w' ⟨he, hb⟩
    exact ⟨⟨_, _, true, by simp [hseg], he⟩, hb⟩
  · obtain ⟨mx, hmx⟩ := h.mxl
    have H := Lib.hid h
    have HN := Lib.hid hseg
    clear h hseg
    go_enter Tryz.func32, Tryz.ntmps32
    go_wp2_with fail
    refine (Tryz.strings_TrimPrefix s ⟨#[115]⟩ w).mono ?_
    rintro e w1 ⟨rfl, rfl⟩
    obtain ⟨t, ht⟩ : ∃ t : ByteArray, t = ⟨(Lib.trimPrefix s.data.toList (⟨#[115]⟩ : ByteArray).data.toList).toArray⟩ := ⟨_, rfl⟩
    rw [← ht]
    have htz : t.size ≤ 1048576 := by
      have h9 : t.data.toList.length ≤ s.data.toList.length := by
        rw [ht]
        show (Lib.trimPrefix s.data.toList [115]).toArray.toList.length ≤ _
        exact trim_le _ _
      rw [size_toList, size_toList] at h9
      omega
    clear ht
    go_wp2_with fail
    refine (Tryz.strings_Cut t ⟨#[45]⟩ mx w1 (by omega) hmx).mono ?_
    rintro e w2 ⟨rfl, nd, rfl⟩
    obtain ⟨a, ha⟩ : ∃ a : ByteArray, a = ⟨(Lib.cut t.data.toList (⟨#[45]⟩ : ByteArray).data.toList).1.toArray⟩ := ⟨_, rfl⟩
    obtain ⟨b, hb⟩ : ∃ b : ByteArray, b = ⟨(Lib.cut t.data.toList (⟨#[45]⟩ : ByteArray).data.toList).2.1.toArray⟩ := ⟨_, rfl⟩
    rw [← ha, ← hb]
    obtain ⟨c1, c2⟩ := cut_le t.data.toList (⟨#[45]⟩ : ByteArray).data.toList
    have haz : a.size ≤ 1048576 := by
      have h9 : a.data.toList.length ≤ t.data.toList.length := by rw [ha]; exact c1
      rw [size_toList, size_toList] at h9
      omega
    have hbz : b.size ≤ 1048576 := by
      have h9 : b.data.toList.length ≤ t.data.toList.length := by rw [hb]; exact c2
      rw [size_toList, size_toList] at h9
      omega
    clear c1 c2
    clear ha hb
    go_wp2_with fail
    refine (parse_any a (by omega) _ (H.out.pure (below_drewN' w1 nd))).mono ?_
    rintro e w3 ⟨⟨v1, er1, rfl⟩, hb3⟩
    have B3 := Lib.hid (show Below w1.heap.size w1 w3 from ⟨hb3.os, hb3.tape, hb3.output, hb3.size, hb3.block⟩)
    clear hb3
    go_wp2_with fail
    refine (parse_any b (by omega) _ (H.out.pure B3.out)).mono ?_
    rintro e w4 ⟨⟨v2, er2, rfl⟩, hb4⟩
    have B4 := Lib.hid (B3.out.trans (hb4.mono B3.out.size))
    clear hb4
    go_wp2_with fail
    refine (name_any w4 (below_pow B4.out H.out.pow) v1 v2).mono ?_
    rintro e w5 ⟨⟨r, hr, rfl⟩, hb5⟩
    have B5 := Lib.hid (B4.out.trans (hb5.mono B4.out.size))
    have hns : r.data.toList ≠ s.data.toList := fun e => HN.out (by
      rw [← e, hr]
      have hne : segName v1 v2 ≠ [] := fun h0 => by
        have := congrArg List.length e
        rw [hr, h0, size_toList] at this
        simp at this; omega
      exact seg_of_name hne)
    have heq : (r.toList == s.toList) = false := by
      rw [ByteArray.toList_eq, ByteArray.toList_eq]
      simpa using hns
    have hne : (r.toList != s.toList) = true := by unfold bne; rw [heq]; rfl
    have HX := Lib.hid HN.out
    clear hb5 hr hns
    go_wp2
    go_ret3
    exact ⟨⟨_, _, false, by simp [HX.out], rfl⟩, B5.out⟩
end Go.Proofs.YtcdjckdbcffgdaaGreatDoor
