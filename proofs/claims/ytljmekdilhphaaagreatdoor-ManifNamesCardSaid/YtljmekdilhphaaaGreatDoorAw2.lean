/- The walk of awake. -/
import Derived.Test.YtljmekdilhphaaaGreatDoorAw
import Derived.Deep.RegionHeld3
namespace Go.Proofs.YtljmekdilhphaaaGreatDoor
open Go.RowKit Go.Sort Go.Maps

theorem seg_lt {w : World} {a : Option Addr} {n c : Nat} {l : Segs} (h : SegsAt w (.slice a n c) l) (hl : 0 < l.length) {g : Nat} (hg : (Value.slice a n c).ownBlock = some g) : g < w.heap.size := by
  obtain ⟨b, o, rfl, _, _, hb⟩ := h.at 0 hl
  cases hg; exact hb
theorem file_one (w : World) : FilesAt (w.alloc (.cells #[.string ⟨#[77, 65, 78, 73, 70, 69, 83, 84]⟩, .string ⟨#[111, 108, 100]⟩, .string ⟨#[]⟩] 68)) (.slice (some ⟨w.heap.size, 0, none⟩) 1 1) [⟨fileN, oldS, []⟩] := by
  refine ⟨_, 1, rfl, .inr ⟨w.heap.size, 0, rfl, fun i hi => ?_⟩⟩
  obtain rfl : i = 0 := by simp at hi; omega
  refine ⟨⟨#[77, 65, 78, 73, 70, 69, 83, 84]⟩, ⟨#[111, 108, 100]⟩, ⟨#[]⟩, rfl, rfl, rfl, ?_, ?_, ?_⟩ <;> (rw [World.cell?_alloc_at _ _ _ _ rfl]; rfl)
theorem int_one (w : World) : IntsAt (w.alloc (.cells #[.int .i64 99] 3)) (.slice (some ⟨w.heap.size, 0, none⟩) 1 1) [99] := by
  refine ⟨_, 1, rfl, by simp, .inr ⟨w.heap.size, 0, rfl, fun i hi => ?_⟩⟩
  obtain rfl : i = 0 := by simp at hi; omega
  rw [World.cell?_alloc_at _ _ _ _ rfl]; rfl

set_option maxRecDepth 100000 in
set_option maxHeartbeats 8000000 in
theorem awake_any (w : World) (hp : Pow w) : Calls Tryz.prog 10 #[] w fun e w' => e = .returned (.bool true) ∧ Below w.heap.size w w' := by
  have HP := Lib.hid hp
  clear hp
  go_enter Tryz.func10, Tryz.ntmps10
  go_wp2_with fail
  refine (example_any w).mono ?_
  rintro e w1 ⟨sv1, rfl, hs1, hb1⟩
  have HS1 := Lib.hid hs1
  clear hs1
  go_wp2_with fail
  refine (make_ex w1 sv1 HS1.out).mono ?_
  rintro e w2 ⟨r, hr, rfl, hb2⟩
  have HR := Lib.hid hr
  have hrs : r.size = 50 := by rw [size_of_list hr]; exact ex_len
  have B2 := Lib.hid (hb1.trans (hb2.mono hb1.size))
  clear hr hb1 hb2
  go_wp2_with fail
  refine (read_seal w2 r 2 exL HR.out ex_may).mono ?_
  rintro e w3 ⟨hb3, v3, hv3, _, rfl⟩
  have B3 := Lib.hid (B2.out.trans (hb3.mono B2.out.size))
  obtain ⟨a3, c3, rfl⟩ : ∃ a c, v3 = .slice a 2 c := hv3.at.shape
  have HV3 := Lib.hid hv3.at
  clear hb3 hv3
  go_wp2_with fail
  obtain ⟨mb, hmb⟩ : ∃ mb, mb = w3.heap.size := ⟨_, rfl⟩
  have hbz : Below w3.heap.size w3 (w3.alloc (.cells #[.int .i64 2, .slice a3 2 c3] 32)) := (Below.refl _ _).alloc (Nat.le_refl _) _
  have B4 := Lib.hid (B3.out.trans (hbz.mono B3.out.size))
  have HV4 := Lib.hid (HV3.out.pure hbz)
  have hm0 : (w3.alloc (.cells #[.int .i64 2, .slice a3 2 c3] 32)).cell? ⟨mb, 0, none⟩ = some (.int .i64 2) := by rw [World.cell?_alloc_at _ _ _ _ hmb]; rfl
  have hm1 : (w3.alloc (.cells #[.int .i64 2, .slice a3 2 c3] 32)).cell? ⟨mb, 1, none⟩ = some (.slice a3 2 c3) := by rw [World.cell?_alloc_at _ _ _ _ hmb]; rfl
  rw [← hmb]
  have hml : mb < (w3.alloc (.cells #[.int .i64 2, .slice a3 2 c3] 32)).heap.size := by rw [hmb]; simp
  clear hbz hmb
  generalize (w3.alloc (.cells #[.int .i64 2, .slice a3 2 c3] 32)) = w4 at *
  refine (names_ok w4 (below_pow B4.out HP.out) 2 (.slice a3 2 c3) exL HV4.out ex_may).mono ?_
  rintro e w5 ⟨nv, rfl, hb5, hown5⟩
  obtain ⟨na, nc, hnv, _, hrow⟩ := row_names hown5
  obtain rfl : nv = .slice na 2 nc := hnv
  have B5 := Lib.hid (B4.out.trans (hb5.mono B4.out.size))
  have HV5 := Lib.hid (HV4.out.pure hb5)
  have k0 := (hb5.cell (p := ⟨mb, 0, none⟩) hml).trans hm0
  have k1 := (hb5.cell (p := ⟨mb, 1, none⟩) hml).trans hm1
  obtain ⟨gn, rfl, _, hn1⟩ := hrow 1 (by decide)
  have hml5 : mb < w5.heap.size := Nat.lt_of_lt_of_le hml hb5.size
  clear hb5 hown5 hrow hm0 hm1 hml
  obtain ⟨nm, hnm⟩ : ∃ nm : ByteArray, nm = ⟨((exL.map nameOf)[1]'(by decide)).toArray⟩ := ⟨_, rfl⟩
  rw [← hnm] at hn1
  have hnl : nm.toList = [115, 48, 48, 48, 48, 48, 48, 48, 50, 45, 48, 48, 48, 48, 48, 48, 48, 48, 48, 55] := by rw [ByteArray.toList_eq, hnm]; exact ex_names
  have h14 : (r.extract 0 14).toList = [109, 97, 110, 49, 0, 0, 0, 0, 0, 0, 0, 2, 0, 2] := by rw [ByteArray.toList_eq, cut_list, HR.out]; exact ex_head
  clear hnm
  have tok1 : True := trivial
  have tok2 : True := trivial
  have tok3 : True := trivial
  have tok4 : True := trivial
  go_wp2_with fail
  go_region_held3 (fun w' => w'.cell? ⟨mb, 0, none⟩ = some (.int .i64 2) ∧ w'.cell? ⟨mb, 1, none⟩ = some (.slice a3 2 c3) ∧ w'.cell? ⟨gn, 1, none⟩ = some (.string nm)) (first | exact ⟨t0, t1, hn9⟩ | exact ⟨s0, s1, hn8⟩ | exact ⟨p0, p1, hn7⟩ | exact ⟨m0, m1, hn6⟩ | exact ⟨k0, k1, hn1⟩) (first
    | (go_at_call 43; have _t := tok1; refine (example_any w5.drew).mono ?_; rintro e w6 ⟨sv6, rfl, hs6, hb6⟩; have HS6 := Lib.hid hs6; have HV6 := Lib.hid ((show SegsAt w5.drew (.slice a3 2 c3) exL from HV5.out).pure hb6); have m0 := (hb6.cell (p := ⟨mb, 0, none⟩) hml5).trans k0; have m1 := (hb6.cell (p := ⟨mb, 1, none⟩) hml5).trans k1; have hml6 : mb < w6.heap.size := Nat.lt_of_lt_of_le hml5 hb6.size; have hn6 := (hb6.cell (p := ⟨gn, 1, none⟩) (ltOfCell (show w5.drew.cell? _ = _ from hn1))).trans hn1; have B6 := Lib.hid (B5.out.drew.trans (hb6.mono B5.out.size)); clear tok1 hs6 hb6)
    | (go_at_call 14; have _t := tok2; refine (same_any w6 2 2 (.slice a3 2 c3) sv6 exL exL HV6.out HS6.out (by decide) (by decide)).mono ?_; rintro e w7 ⟨rfl, hb7⟩; have HV7 := Lib.hid (HV6.out.pure hb7); have p0 := (hb7.cell (p := ⟨mb, 0, none⟩) hml6).trans m0; have p1 := (hb7.cell (p := ⟨mb, 1, none⟩) hml6).trans m1; have hml7 : mb < w7.heap.size := Nat.lt_of_lt_of_le hml6 hb7.size; have hn7 := (hb7.cell (p := ⟨gn, 1, none⟩) (ltOfCell hn6)).trans hn6; have B7 := Lib.hid (B6.out.trans (hb7.mono B6.out.size)); clear tok2 hb7)
    | (go_at_call 41; have _t := tok3; refine (find_any w7 2 (.slice a3 2 c3) exL HV7.out (by decide) 6).mono ?_; rintro e w8 ⟨rfl, hb8⟩; have HV8 := Lib.hid (HV7.out.pure hb8); have s0 := (hb8.cell (p := ⟨mb, 0, none⟩) hml7).trans p0; have s1 := (hb8.cell (p := ⟨mb, 1, none⟩) hml7).trans p1; have hml8 : mb < w8.heap.size := Nat.lt_of_lt_of_le hml7 hb8.size; have hn8 := (hb8.cell (p := ⟨gn, 1, none⟩) (ltOfCell hn7)).trans hn7; have B8 := Lib.hid (B7.out.trans (hb8.mono B7.out.size)); rw [show findB exL 6 = 0 from by decide]; clear tok3 hb8)
    | (go_at_call 41; have _t := tok4; refine (find_any w8 2 (.slice a3 2 c3) exL HV8.out (by decide) 7).mono ?_; rintro e w9 ⟨rfl, hb9⟩; have HV9 := Lib.hid (HV8.out.pure hb9); have t0 := (hb9.cell (p := ⟨mb, 0, none⟩) hml8).trans s0; have t1 := (hb9.cell (p := ⟨mb, 1, none⟩) hml8).trans s1; have hn9 := (hb9.cell (p := ⟨gn, 1, none⟩) (ltOfCell hn8)).trans hn8; have B9 := Lib.hid (B8.out.trans (hb9.mono B8.out.size)); rw [show findB exL 7 = 1 from by decide]; clear tok4 hb9))
  go_wp2
  go_loopw [6] (fun i wr => ∃ cut : Int, i = .int .i64 cut ∧ 2 ≤ cut ∧ cut ≤ 5 ∧ wr.cell? ⟨mb, 0, none⟩ = some (.int .i64 2) ∧ wr.cell? ⟨mb, 1, none⟩ = some (.slice a3 2 c3) ∧ SegsAt wr (.slice a3 2 c3) exL ∧ Below w.heap.size w wr) (fun i _ => 5 - (intOf i).toNat)
  case atStart => exact ⟨2, rfl, by omega, by omega, t0, t1, HV9.out, B9.out⟩
  case round =>
    obtain ⟨cut, rfl, hc0, hc1, m0, m1, hv, hb⟩ := hrel
    have HV := Lib.hid hv
    have hmlr := ltOfCell m0
    have hwb := hb.size
    clear hv k0 k1 hn1 t0 t1 hn9 hnl h14
    rcases (show cut = 2 ∨ cut = 3 ∨ cut = 4 ∨ cut = 5 from by omega) with hc2 | hc3 | hc4 | hc5
    · obtain rfl : cut = 2 := hc2
      have hseg := HV.out
      go_wp2_with fail
      refine (dk_load _ 200 (.slice (some ⟨wr.heap.size, 0, none⟩) 1 1) [⟨fileN, oldS, []⟩] (file_one wr) (by decide) (by intro f hf; rw [List.mem_singleton] at hf; subst hf; decide) (by decide)).mono ?_
      rintro e wa ⟨hba, hla⟩
      rw [ex_load] at hla
      obtain ⟨p, b, hpg, hbg, rfl, hda⟩ := hla
      simp at hpg hbg
      have hga : Below wr.heap.size wr wa := ((Below.refl wr.heap.size wr).alloc (Nat.le_refl _) _).trans (hba.mono (by simp))
      have HDA := Lib.hid hda
      have HGA := Lib.hid hga
      have hsa := hga.size
      clear hba hda
      go_wp2_with fail
      refine (show Calls Tryz.prog 20 #[.pointer (some ⟨p, 0, none⟩), .int .i64 2] wa fun e w' => OpPost p b (awSt 2, 0) wa e w' from dk_cut wa p b (awSt (-1)) HDA.out 2 (by decide) (by decide)).mono ?_
      rintro e wb ⟨rfl, hdb, hfb⟩
      have HDB := Lib.hid hdb
      have hfrb : Fr (fun k => k = p ∨ k = b) wr wb := (Fr.pure HGA.out).trans hfb
      have u0 := hfrb.cellAt m0 (by omega)
      have u1 := hfrb.cellAt m1 (by omega)
      have HVB := Lib.hid ((hseg.pure HGA.out).kept hfb (fun g e => by have := seg_lt hseg (by decide) e; omega))
      have hsb := hfrb.size
      have HFB := Lib.hid hfrb
      clear hdb hfb hfrb
      go_wp2_with fail
      refine (swap_ok wb p b (awSt 2) HDB.out 2 (.slice a3 2 c3) exL HVB.out (by decide) ex_may).mono ?_
      rintro e wc ⟨rfl, hdc, hfc⟩
      have hcode : (dkSwap (awSt 2) 2 exL).2 = 45 := aw2.1
      rw [hcode]
      have HDC := Lib.hid hdc
      have HFC := Lib.hid (HFB.out.trans hfc)
      have hsc := HFC.out.size
      clear hdc hfc hcode u0 u1
      go_wp2_with fail
      have hbz : Below wc.heap.size wc (wc.alloc (.cells #[.int .i64 99] 3)) := (Below.refl _ _).alloc (Nat.le_refl _) _
      refine (dk_crash _ p b _ (HDC.out.pure hbz) (.slice (some ⟨wc.heap.size, 0, none⟩) 1 1) [99] (int_one wc) (fun g e => by cases e; have h1 := HDC.out.lt; have h2 := HDC.out.own.lt; show wc.heap.size ≠ p ∧ wc.heap.size ≠ b; omega)).mono ?_
      rintro e wd ⟨rfl, hdd, hfd⟩
      have HDD := Lib.hid hdd
      have HFD := Lib.hid ((HFC.out.andPure hbz).trans hfd)
      clear hdd hfd hbz
      go_wp2_with fail
      refine (show Calls Tryz.prog 32 #[.pointer (some ⟨p, 0, none⟩), .string ⟨#[77, 65, 78, 73, 70, 69, 83, 84]⟩] wd fun e w' => TextPost (oldS, 0) wd e w' from aw2.2 ▸ dk_read wd p b _ HDD.out ⟨#[77, 65, 78, 73, 70, 69, 83, 84]⟩ (by decide)).mono ?_
      rintro e we ⟨⟨t, ht, rfl⟩, hbe⟩
      have HFE := Lib.hid (HFD.out.andPure hbe)
      have hse := HFE.out.size
      have htl : t.toList = [111, 108, 100] := by rw [ByteArray.toList_eq, ht]; rfl
      have hts : ([111, 108, 100] == r.toList) = false := by
        cases e : ([111, 108, 100] == r.toList : Bool)
        · rfl
        · have := congrArg List.length (eq_of_beq e); rw [ByteArray.toList_eq, HR.out, ex_len] at this; exact absurd this (by decide)
      clear hbe ht
      go_wp2
      go_roundw
      case rel => exact ⟨3, rfl, by omega, by omega, HFE.out.cellAt m0 (by omega), HFE.out.cellAt m1 (by omega), HV.out.kept HFE.out (fun g e => by have := seg_lt hseg (by decide) e; omega), hb.trans (HFE.out.below (by omega) (fun k hk => by omega))⟩
      case measure => simp [intOf]
    · obtain rfl : cut = 3 := hc3
      have hseg := HV.out
      go_wp2_with fail
      refine (dk_load _ 200 (.slice (some ⟨wr.heap.size, 0, none⟩) 1 1) [⟨fileN, oldS, []⟩] (file_one wr) (by decide) (by intro f hf; rw [List.mem_singleton] at hf; subst hf; decide) (by decide)).mono ?_
      rintro e wa ⟨hba, hla⟩
      rw [ex_load] at hla
      obtain ⟨p, b, hpg, hbg, rfl, hda⟩ := hla
      simp at hpg hbg
      have hga : Below wr.heap.size wr wa := ((Below.refl wr.heap.size wr).alloc (Nat.le_refl _) _).trans (hba.mono (by simp))
      have HDA := Lib.hid hda
      have HGA := Lib.hid hga
      have hsa := hga.size
      clear hba hda
      go_wp2_with fail
      refine (show Calls Tryz.prog 20 #[.pointer (some ⟨p, 0, none⟩), .int .i64 3] wa fun e w' => OpPost p b (awSt 3, 0) wa e w' from dk_cut wa p b (awSt (-1)) HDA.out 3 (by decide) (by decide)).mono ?_
      rintro e wb ⟨rfl, hdb, hfb⟩
      have HDB := Lib.hid hdb
      have hfrb : Fr (fun k => k = p ∨ k = b) wr wb := (Fr.pure HGA.out).trans hfb
      have u0 := hfrb.cellAt m0 (by omega)
      have u1 := hfrb.cellAt m1 (by omega)
      have HVB := Lib.hid ((hseg.pure HGA.out).kept hfb (fun g e => by have := seg_lt hseg (by decide) e; omega))
      have hsb := hfrb.size
      have HFB := Lib.hid hfrb
      clear hdb hfb hfrb
      go_wp2_with fail
      refine (swap_ok wb p b (awSt 3) HDB.out 2 (.slice a3 2 c3) exL HVB.out (by decide) ex_may).mono ?_
      rintro e wc ⟨rfl, hdc, hfc⟩
      have hcode : (dkSwap (awSt 3) 2 exL).2 = 45 := aw3.1
      rw [hcode]
      have HDC := Lib.hid hdc
      have HFC := Lib.hid (HFB.out.trans hfc)
      have hsc := HFC.out.size
      clear hdc hfc hcode u0 u1
      go_wp2_with fail
      have hbz : Below wc.heap.size wc (wc.alloc (.cells #[.int .i64 99] 3)) := (Below.refl _ _).alloc (Nat.le_refl _) _
      refine (dk_crash _ p b _ (HDC.out.pure hbz) (.slice (some ⟨wc.heap.size, 0, none⟩) 1 1) [99] (int_one wc) (fun g e => by cases e; have h1 := HDC.out.lt; have h2 := HDC.out.own.lt; show wc.heap.size ≠ p ∧ wc.heap.size ≠ b; omega)).mono ?_
      rintro e wd ⟨rfl, hdd, hfd⟩
      have HDD := Lib.hid hdd
      have HFD := Lib.hid ((HFC.out.andPure hbz).trans hfd)
      clear hdd hfd hbz
      go_wp2_with fail
      refine (show Calls Tryz.prog 32 #[.pointer (some ⟨p, 0, none⟩), .string ⟨#[77, 65, 78, 73, 70, 69, 83, 84]⟩] wd fun e w' => TextPost (oldS, 0) wd e w' from aw3.2 ▸ dk_read wd p b _ HDD.out ⟨#[77, 65, 78, 73, 70, 69, 83, 84]⟩ (by decide)).mono ?_
      rintro e we ⟨⟨t, ht, rfl⟩, hbe⟩
      have HFE := Lib.hid (HFD.out.andPure hbe)
      have hse := HFE.out.size
      have htl : t.toList = [111, 108, 100] := by rw [ByteArray.toList_eq, ht]; rfl
      have hts : ([111, 108, 100] == r.toList) = false := by
        cases e : ([111, 108, 100] == r.toList : Bool)
        · rfl
        · have := congrArg List.length (eq_of_beq e); rw [ByteArray.toList_eq, HR.out, ex_len] at this; exact absurd this (by decide)
      clear hbe ht
      go_wp2
      go_roundw
      case rel => exact ⟨4, rfl, by omega, by omega, HFE.out.cellAt m0 (by omega), HFE.out.cellAt m1 (by omega), HV.out.kept HFE.out (fun g e => by have := seg_lt hseg (by decide) e; omega), hb.trans (HFE.out.below (by omega) (fun k hk => by omega))⟩
      case measure => simp [intOf]
    · obtain rfl : cut = 4 := hc4
      have hseg := HV.out
      go_wp2_with fail
      refine (dk_load _ 200 (.slice (some ⟨wr.heap.size, 0, none⟩) 1 1) [⟨fileN, oldS, []⟩] (file_one wr) (by decide) (by intro f hf; rw [List.mem_singleton] at hf; subst hf; decide) (by decide)).mono ?_
      rintro e wa ⟨hba, hla⟩
      rw [ex_load] at hla
      obtain ⟨p, b, hpg, hbg, rfl, hda⟩ := hla
      simp at hpg hbg
      have hga : Below wr.heap.size wr wa := ((Below.refl wr.heap.size wr).alloc (Nat.le_refl _) _).trans (hba.mono (by simp))
      have HDA := Lib.hid hda
      have HGA := Lib.hid hga
      have hsa := hga.size
      clear hba hda
      go_wp2_with fail
      refine (show Calls Tryz.prog 20 #[.pointer (some ⟨p, 0, none⟩), .int .i64 4] wa fun e w' => OpPost p b (awSt 4, 0) wa e w' from dk_cut wa p b (awSt (-1)) HDA.out 4 (by decide) (by decide)).mono ?_
      rintro e wb ⟨rfl, hdb, hfb⟩
      have HDB := Lib.hid hdb
      have hfrb : Fr (fun k => k = p ∨ k = b) wr wb := (Fr.pure HGA.out).trans hfb
      have u0 := hfrb.cellAt m0 (by omega)
      have u1 := hfrb.cellAt m1 (by omega)
      have HVB := Lib.hid ((hseg.pure HGA.out).kept hfb (fun g e => by have := seg_lt hseg (by decide) e; omega))
      have hsb := hfrb.size
      have HFB := Lib.hid hfrb
      clear hdb hfb hfrb
      go_wp2_with fail
      refine (swap_ok wb p b (awSt 4) HDB.out 2 (.slice a3 2 c3) exL HVB.out (by decide) ex_may).mono ?_
      rintro e wc ⟨rfl, hdc, hfc⟩
      have hcode : (dkSwap (awSt 4) 2 exL).2 = 0 := aw4.1
      rw [hcode]
      have HDC := Lib.hid hdc
      have HFC := Lib.hid (HFB.out.trans hfc)
      have hsc := HFC.out.size
      clear hdc hfc hcode u0 u1
      go_wp2_with fail
      have hbz : Below wc.heap.size wc (wc.alloc (.cells #[.int .i64 99] 3)) := (Below.refl _ _).alloc (Nat.le_refl _) _
      refine (dk_crash _ p b _ (HDC.out.pure hbz) (.slice (some ⟨wc.heap.size, 0, none⟩) 1 1) [99] (int_one wc) (fun g e => by cases e; have h1 := HDC.out.lt; have h2 := HDC.out.own.lt; show wc.heap.size ≠ p ∧ wc.heap.size ≠ b; omega)).mono ?_
      rintro e wd ⟨rfl, hdd, hfd⟩
      have HDD := Lib.hid hdd
      have HFD := Lib.hid ((HFC.out.andPure hbz).trans hfd)
      clear hdd hfd hbz
      go_wp2_with fail
      refine (show Calls Tryz.prog 32 #[.pointer (some ⟨p, 0, none⟩), .string ⟨#[77, 65, 78, 73, 70, 69, 83, 84]⟩] wd fun e w' => TextPost (exS, 0) wd e w' from aw4.2 ▸ dk_read wd p b _ HDD.out ⟨#[77, 65, 78, 73, 70, 69, 83, 84]⟩ (by decide)).mono ?_
      rintro e we ⟨⟨t, ht, rfl⟩, hbe⟩
      have HFE := Lib.hid (HFD.out.andPure hbe)
      have hse := HFE.out.size
      have hts : (t.toList == r.toList) = true := str_eq_true (by rw [ht, HR.out])
      have hto : (t.toList == [111, 108, 100]) = false := by
        cases e : (t.toList == [111, 108, 100] : Bool)
        · rfl
        · have := congrArg List.length (eq_of_beq e); rw [ByteArray.toList_eq, ht, ex_len] at this; exact absurd this (by decide)
      clear hbe ht
      go_wp2
      go_roundw
      case rel => exact ⟨5, rfl, by omega, by omega, HFE.out.cellAt m0 (by omega), HFE.out.cellAt m1 (by omega), HV.out.kept HFE.out (fun g e => by have := seg_lt hseg (by decide) e; omega), hb.trans (HFE.out.below (by omega) (fun k hk => by omega))⟩
      case measure => simp [intOf]
    · obtain rfl : cut = 5 := hc5
      go_wp2
      go_ret
      exact ⟨rfl, hb⟩

end Go.Proofs.YtljmekdilhphaaaGreatDoor
