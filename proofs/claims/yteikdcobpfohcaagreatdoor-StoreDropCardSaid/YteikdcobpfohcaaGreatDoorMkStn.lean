/- The walks of store.number, Name, Named. -/
import Derived.Test.YteikdcobpfohcaaGreatDoorMFd
import Derived.Test.YteikdcobpfohcaaGreatDoorShelfD
import Derived.Lib.SmallJoins
namespace Go.Proofs.YteikdcobpfohcaaGreatDoor
open Go.RowKit Go.Sort Go.Shelf

set_option maxRecDepth 100000 in
theorem snumber_any (w : World) (f : Int) : Calls Tryz.prog 27 #[.int .i64 f] w fun e w' => e = .returned (.bool (numberB f)) ∧ w = w' := by
  by_cases h0 : 0 ≤ f
  · by_cases h1 : f ≤ 1048576
    · go_enter Tryz.func27, Tryz.ntmps27
      go_wp2
      go_ret
      exact ⟨ret_bool (by unfold numberB; simp [h0, h1]), rfl⟩
    · go_enter Tryz.func27, Tryz.ntmps27
      go_wp2
      go_ret
      exact ⟨ret_bool (by unfold numberB; simp [h1]), rfl⟩
  · go_enter Tryz.func27, Tryz.ntmps27
    go_wp2
    go_ret
    exact ⟨ret_bool (by unfold numberB; simp; omega), rfl⟩

set_option maxRecDepth 100000 in
set_option maxHeartbeats 1000000 in
theorem sname_any (w : World) (hp : Pow w) (n : Int) :
    Calls Tryz.prog 14 #[.int .i64 n] w fun e w' => (∃ r : ByteArray, r.data.toList = snapName n ∧ e = .returned (.string r)) ∧ Below w.heap.size w w' := by
  have HP := Lib.hid hp
  clear hp
  cases hn : numberB n
  · have hE := Lib.hid (show snapName n = [] from by unfold snapName; rw [if_neg (by unfold numberB at hn; simp at hn; omega)])
    go_enter Tryz.func14, Tryz.ntmps14
    go_wp2_with fail
    refine (snumber_any _ n).mono ?_
    rintro e w1 ⟨rfl, rfl⟩
    rw [hn]
    go_wp2
    go_ret
    exact ⟨⟨⟨#[]⟩, by rw [hE.out], rfl⟩, Below.refl _ _⟩
  · have hf : 0 ≤ n ∧ n ≤ 1048576 := by unfold numberB at hn; simp at hn; exact hn
    obtain ⟨h0, h1⟩ := hf
    have hE := Lib.hid (show snapName n = 110 :: padded n 10 from by unfold snapName; rw [if_pos ⟨h0, h1⟩])
    go_enter Tryz.func14, Tryz.ntmps14
    go_wp2_with fail
    refine (snumber_any _ n).mono ?_
    rintro e w1 ⟨rfl, rfl⟩
    rw [hn]
    go_wp2_with fail
    refine (Tryz.strconv_FormatInt_10 n (by omega) (by omega) w HP.out).mono ?_
    rintro e w1 ⟨rfl, k, os, hw1⟩
    have hb1 : Below w.heap.size w w1 := by rw [hw1]; exact ⟨rfl, rfl, rfl, by simp [grow, World.drewN], fun j hj => by simp [grow, World.drewN, Array.getElem?_append, hj]⟩
    clear hw1
    obtain ⟨t, ht⟩ : ∃ t : ByteArray, t = ⟨(Lib.itoa n).toArray⟩ := ⟨_, rfl⟩
    rw [← ht]
    have htl := Lib.hid (show t.data.toList = Lib.itoa n from by rw [ht])
    clear ht
    have hts : t.size ≤ 7 := by
      rw [size_of_list htl.out]
      obtain ⟨u, rfl⟩ : ∃ u : Nat, n = (u : Int) := ⟨n.toNat, by omega⟩
      rw [Lib.itoa_nonneg]
      exact dec_len u 6 (by omega)
    have hw2 : IntKind.i64.wrap (10 - (t.size : Int)) = 10 - (t.size : Int) := IntWalk.i64_in _ (by omega)
    have hw3 : (10 - (t.size : Int)) = ((10 - t.size : Nat) : Int) := by omega
    rw [hw3] at hw2
    go_wp2_with fail
    try rw [hw3]
    refine (Tryz.strings_Repeat ⟨#[48]⟩ (10 - t.size) w1 (by omega) (by show 1 * (10 - t.size) ≤ _; omega)).mono ?_
    rintro e w2 ⟨rfl, hb2⟩
    obtain ⟨z, hz⟩ : ∃ z : ByteArray, z = ⟨(Lib.repeatL (⟨#[48]⟩ : ByteArray).data.toList (10 - t.size)).toArray⟩ := ⟨_, rfl⟩
    rw [← hz]
    have hzl := Lib.hid (show z.data.toList = zeros (10 - t.size) from by rw [hz]; exact repeat_zeros _)
    clear hz
    have hzs : z.size ≤ 10 := by rw [size_of_list hzl.out]; unfold zeros; rw [List.length_replicate]; omega
    have hcat0 : (⟨#[110]⟩ : ByteArray).size + z.size ≤ 9223372036854775807 := by show 1 + z.size ≤ _; omega
    have hcat1 : 1 + z.size ≤ 9223372036854775807 := by omega
    have hcat : 1 + z.size + t.size ≤ 9223372036854775807 := by omega
    have HB := Lib.hid (hb1.trans (hb2.mono hb1.size))
    clear hb1 hb2
    go_wp2
    go_ret
    refine ⟨⟨_, ?_, rfl⟩, HB.out⟩
    rw [hE.out]
    unfold padded
    rw [← htl.out, size_toList, ← hzl.out]
    simp

/-- What the library's variables must be: the errors are some, or none. -/
def ErrIn (w : World) (g : Nat) : Prop := ∃ ev, w.cell? ⟨g, 0, none⟩ = some ev ∧ (ev = .nilIface ∨ ∃ te pe, ev = .iface te pe)
structure Libz (w : World) : Prop where
  pow : Pow w
  syn : ErrIn w 0
  rng : ErrIn w 1
theorem ErrIn.kept {S : Nat → Prop} {w w' : World} {g : Nat} (h : ErrIn w g) (hf : Fr S w w') (hs : ¬ S g) : ErrIn w' g := by
  obtain ⟨ev, h1, h2⟩ := h
  exact ⟨ev, hf.cellAt h1 hs, h2⟩
/-- The blocks of the library's variables. -/
def LibzB (k : Nat) : Prop := k = 2 ∨ k = 0 ∨ k = 1
theorem Libz.kept {S : Nat → Prop} {w w' : World} (h : Libz w) (hf : Fr S w w') (hs : ∀ k, S k → ¬ LibzB k) : Libz w' :=
  ⟨hf.pow h.pow (fun e => hs _ e (.inl rfl)), h.syn.kept hf (fun e => hs _ e (.inr (.inl rfl))), h.rng.kept hf (fun e => hs _ e (.inr (.inr rfl)))⟩
theorem Libz.pure {w w' : World} (h : Libz w) (hb : Below w.heap.size w w') : Libz w' := h.kept (Fr.pure (S := fun _ => False) hb) (fun _ e => e.elim)
theorem Libz.lt {w : World} (h : Libz w) (k : Nat) (hk : LibzB k) : k < w.heap.size := by
  rcases hk with rfl | rfl | rfl
  · exact pow_lt h.pow
  · obtain ⟨ev, h1, _⟩ := h.syn; exact Lib.lt_of_cell h1
  · obtain ⟨ev, h1, _⟩ := h.rng; exact Lib.lt_of_cell h1

/-- ParseInt of any text: a number and no error, or an error. -/
theorem parse_all (s : ByteArray) (hz : s.size ≤ 281474976710656) (w : World) (h : Libz w) :
    Calls Tryz.prog 25 #[.string s, .int .i64 10, .int .i64 64] w fun e w' => ((∃ v : Int, Lib.parseIntB 64 s.data.toList = .ok v ∧ e = .returned (.tuple #[.int .i64 v, .nilIface])) ∨ (∃ (v : Int) (t : TypeId) (a : Addr), (∀ u, Lib.parseIntB 64 s.data.toList ≠ .ok u) ∧ e = .returned (.tuple #[.int .i64 v, .iface t (.pointer (some a))]))) ∧ Below w.heap.size w w' := by
  cases hp : Lib.parseIntB 64 s.data.toList
  · rename_i v
    refine (Any.strconv_ParseInt_10_at64_ok Tryz.laysD174 s (by omega) v hp w).mono ?_
    rintro e w' ⟨he, h⟩
    refine ⟨.inl ⟨v, rfl, he⟩, ?_⟩
    rcases h with rfl | ⟨t, rfl⟩
    · exact Below.refl _ _
    · exact Joins.below_bytesWorld _ _ _ _ (Nat.le_refl _)
  · obtain ⟨ev, h1, h2⟩ := h.syn
    refine (Any.strconv_ParseInt_10_at64_syntax Tryz.laysD174 s hz hp ev w h1 h2).mono ?_
    rintro e w' ⟨n, he, _, _, hb⟩
    exact ⟨.inr ⟨_, _, _, (fun u hu => by cases hu), he⟩, hb⟩
  · obtain ⟨ev, h1, h2⟩ := h.rng
    refine (Any.strconv_ParseInt_10_at64_range Tryz.laysD174 s hz hp ev w h1 h2).mono ?_
    rintro e w' ⟨n, he, _, _, hb⟩
    exact ⟨.inr ⟨_, _, _, (fun u hu => by cases hu), he⟩, hb⟩

/-- What Named tells. -/
def snapIs (s : List UInt8) (r : Value) : Prop := (∃ n : Nat, n ≤ 1048576 ∧ s = snapName (n : Int) ∧ r = .tuple #[.int .i64 (n : Int), .bool true]) ∨ (¬ isSnap s ∧ r = .tuple #[.int .i64 0, .bool false])

set_option maxRecDepth 100000 in
set_option maxHeartbeats 1000000 in
theorem snamed_any (w : World) (h : Libz w) (s : ByteArray) (hz : s.size ≤ 281474976710656) :
    Calls Tryz.prog 6 #[.string s] w fun e w' => (∃ r, snapIs s.data.toList r ∧ e = .returned r) ∧ Below w.heap.size w w' := by
  have H := Lib.hid h
  clear h
  obtain ⟨t, ht⟩ : ∃ t : ByteArray, t = ⟨(Lib.trimPrefix s.data.toList (⟨#[110]⟩ : ByteArray).data.toList).toArray⟩ := ⟨_, rfl⟩
  have htz : t.size ≤ 281474976710656 := by
    have h9 : t.data.toList.length ≤ s.data.toList.length := by
      rw [ht]
      show (Lib.trimPrefix s.data.toList [110]).toArray.toList.length ≤ _
      exact trim_short _ _
    rw [size_toList, size_toList] at h9
    omega
  have htl : t.data.toList = Lib.trimPrefix s.data.toList [110] := by rw [ht]
  have HT := Lib.hid htl
  clear htl
  cases hpre : Lib.hasPrefix s.data.toList (⟨#[110]⟩ : ByteArray).data.toList
  · have HX := Lib.hid (show ¬ isSnap s.data.toList from by
      rintro ⟨n, hn, e⟩
      rw [e, snapName_eq n hn] at hpre
      have := snap_prefix (padded (n : Int) 10)
      rw [show (⟨#[110]⟩ : ByteArray).data.toList = [110] from rfl, this] at hpre
      cases hpre)
    go_enter Tryz.func6, Tryz.ntmps6
    go_wp2_with fail
    refine (Tryz.strings_CutPrefix s ⟨#[110]⟩ w).mono ?_
    rintro e w1 ⟨rfl, rfl⟩
    rw [← ht, hpre]
    clear ht
    go_wp2_with fail
    refine (parse_all t htz w1 H.out).mono ?_
    rintro e w2 ⟨⟨v, _, rfl⟩ | ⟨v, ty, a, _, rfl⟩, hb2⟩
    · have B2 := Lib.hid hb2
      clear hb2
      go_wp2
      go_ret2
      exact ⟨⟨_, .inr ⟨HX.out, rfl⟩, rfl⟩, B2.out⟩
    · have B2 := Lib.hid hb2
      clear hb2
      go_wp2
      go_ret2
      exact ⟨⟨_, .inr ⟨HX.out, rfl⟩, rfl⟩, B2.out⟩
  · have hdec : ∀ n : Nat, n ≤ 1048576 → s.data.toList = snapName (n : Int) → Lib.parseIntB 64 t.data.toList = .ok (n : Int) := by
      intro n hn e
      rw [HT.out, e, snapName_eq n hn, snap_trim]
      exact parse_padded n 10 (by omega)
    have HD := Lib.hid hdec
    clear hdec
    go_enter Tryz.func6, Tryz.ntmps6
    go_wp2_with fail
    refine (Tryz.strings_CutPrefix s ⟨#[110]⟩ w).mono ?_
    rintro e w1 ⟨rfl, rfl⟩
    rw [← ht, hpre]
    clear ht
    go_wp2_with fail
    refine (parse_all t htz w1 H.out).mono ?_
    rintro e w2 ⟨⟨v, hv, rfl⟩ | ⟨v, ty, a, hv, rfl⟩, hb2⟩
    · have B2 := Lib.hid hb2
      have HV := Lib.hid hv
      clear hb2 hv
      go_wp2_with fail
      refine (sname_any w2 (below_pow B2.out H.out.pow) v).mono ?_
      rintro e w3 ⟨⟨r, hr, rfl⟩, hb3⟩
      have B3 := Lib.hid (B2.out.trans (hb3.mono B2.out.size))
      by_cases heq : r.data.toList = s.data.toList
      · have hne : snapName v ≠ [] := by
          intro e
          rw [hr, e] at heq
          rw [← heq] at hpre
          revert hpre; decide
        obtain ⟨h0, h1⟩ := snapName_of hne
        obtain ⟨n, rfl⟩ : ∃ n : Nat, v = (n : Int) := ⟨v.toNat, by omega⟩
        have HY := Lib.hid (show n ≤ 1048576 ∧ s.data.toList = snapName (n : Int) from ⟨by omega, by rw [← heq, hr]⟩)
        have hee : (r.toList == s.toList) = true := str_eq_true heq
        have hne : (r.toList != s.toList) = false := by unfold bne; rw [hee]; rfl
        clear hb3 hr heq
        go_wp2
        go_ret2
        exact ⟨⟨_, .inl ⟨n, HY.out.1, HY.out.2, rfl⟩, rfl⟩, B3.out⟩
      · have HX := Lib.hid (show ¬ isSnap s.data.toList from by
          rintro ⟨n, hn, e⟩
          have := HD.out n hn e
          rw [HV.out] at this
          cases this
          exact heq (by rw [hr, e]))
        have hee : (r.toList == s.toList) = false := by
          rw [ByteArray.toList_eq, ByteArray.toList_eq]
          simpa using heq
        have hne : (r.toList != s.toList) = true := by unfold bne; rw [hee]; rfl
        clear hb3 hr heq
        go_wp2
        go_ret2
        exact ⟨⟨_, .inr ⟨HX.out, rfl⟩, rfl⟩, B3.out⟩
    · have B2 := Lib.hid hb2
      have HX := Lib.hid (show ¬ isSnap s.data.toList from by
        rintro ⟨n, hn, e⟩
        exact hv _ (HD.out n hn e))
      clear hb2 hv
      go_wp2
      go_ret2
      exact ⟨⟨_, .inr ⟨HX.out, rfl⟩, rfl⟩, B2.out⟩
end Go.Proofs.YteikdcobpfohcaaGreatDoor
