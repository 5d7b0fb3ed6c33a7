/- The walks of many and kept. -/
import Derived.Test.YtppghhophaobdaaGreatDoorDk12
import Derived.Test.YtppghhophaobdaaGreatDoorWhP
import Derived.Test.YtppghhophaobdaaGreatDoorSw2
import Derived.Test.YtppghhophaobdaaGreatDoorManP
import Derived.Test.YtppghhophaobdaaGreatDoorNms
import Derived.Test.YtppghhophaobdaaGreatDoorMx
import Derived.Deep.RegionWith
import Derived.Deep.RegionHeld3
import Derived.Test.YtppghhophaobdaaGreatDoorRead
import Derived.Shelf.SlMaps.Clone
import Derived.Lib.QuietBelow
import Derived.Laws.StructEq
namespace Go.Proofs.YtppghhophaobdaaGreatDoor
open Go.RowKit Go.Maps Go.Sort

def AnyBool (w : World) (e : Ending) (w' : World) : Prop := (∃ bo, e = .returned (.bool bo)) ∧ Below w.heap.size w w'
theorem below_drewN (w : World) (q : Nat) : Below w.heap.size w (w.drewN q) := ⟨rfl, rfl, rfl, Nat.le_refl _, fun _ _ => rfl⟩

set_option maxRecDepth 100000 in
set_option maxHeartbeats 2000000 in
theorem many_any (w : World) (sv : Value) (l : Fs) (hl : FilesAt w sv l) (hlen : l.length ≤ 4398046511104) :
    Calls Tryz.prog 8 #[sv] w fun e w' => AnyBool w e w' := by
  obtain ⟨a, c, rfl⟩ := hl.shape
  have HS := Lib.hid hl
  clear hl
  go_enter Tryz.func8, Tryz.ntmps8
  go_wp2
  go_loopw [3, 4] (fun n i wr => ∃ (k : Nat) (m : Int), i = .int .i64 k ∧ k ≤ l.length ∧ n = .int .i64 m ∧ 0 ≤ m ∧ m ≤ 100000 ∧ ∃ q, wr = w.drewN q) (fun _ i _ => l.length - (intOf i).toNat)
  case atStart => exact ⟨0, 0, rfl, by omega, rfl, by omega, by omega, 0, rfl⟩
  case round =>
    obtain ⟨k, m, rfl, hk, rfl, hm0, hm1, q, rfl⟩ := hrel
    have hb : Below w.heap.size w (w.drewN q) := below_drewN w q
    by_cases hlt : k < l.length
    · by_cases hm : m ≤ 20000
      · obtain ⟨b, o, rfl, hbl, x, y, z, e1, e2, e3, h1, h2, h3⟩ := HS.out.at k hlt
        clear e1 e2 e3
        go_wp2
        go_quiet (fail)
        go_wp2
        go_roundw
        case rel => exact ⟨k + 1, _, by go_num, by omega, rfl, by omega, by omega, _, rfl⟩
        case measure => simp [intOf]; omega
      · go_wp2
        go_ret
        exact ⟨⟨_, rfl⟩, hb⟩
    · go_wp2
      go_ret
      exact ⟨⟨_, rfl⟩, hb⟩
end Go.Proofs.YtppghhophaobdaaGreatDoor

/- The chapter's example, reckoned. -/
namespace Go.Proofs.YtppghhophaobdaaGreatDoor

def exL : Segs := [(1, 0), (2, 7)]
def exS : List UInt8 := Crc.seal_ (manBytes 2 exL)
def oldS : List UInt8 := [111, 108, 100]
/-- The disk that each round begins with. -/
def awSt (cut : Int) : DkSt := ⟨[⟨fileN, oldS, []⟩], 200, cut, false⟩
theorem ex_may : mayB 2 exL = true := by decide
theorem ex_len : exS.length = 50 := by unfold exS; rw [Crc.seal_length, manBytes_length]; rfl
theorem ex_head : exS.take 14 = [109, 97, 110, 49, 0, 0, 0, 0, 0, 0, 0, 2, 0, 2] := by
  unfold exS Crc.seal_
  rw [List.take_append_of_le_length (by rw [manBytes_length]; decide)]
  decide
theorem ex_load : dkLoad 200 [⟨fileN, oldS, []⟩] = (some (awSt (-1)), 0) := by kernel_rfl
theorem aw2 : (dkSwap (awSt 2) 2 exL).2 = 45 ∧ dkRead (dkCrash (dkSwap (awSt 2) 2 exL).1 [99]) fileN = (oldS, 0) := by decide +kernel
theorem aw3 : (dkSwap (awSt 3) 2 exL).2 = 45 ∧ dkRead (dkCrash (dkSwap (awSt 3) 2 exL).1 [99]) fileN = (oldS, 0) := by decide +kernel
theorem aw4 : (dkSwap (awSt 4) 2 exL).2 = 0 ∧ dkRead (dkCrash (dkSwap (awSt 4) 2 exL).1 [99]) fileN = (exS, 0) := by decide +kernel
theorem ex_names : nameOf (2, 7) = [115, 48, 48, 48, 48, 48, 48, 48, 50, 45, 48, 48, 48, 48, 48, 48, 48, 48, 48, 55] := by decide +kernel
end Go.Proofs.YtppghhophaobdaaGreatDoor

/- The walk of the laws' example, and of awake. -/
namespace Go.Proofs.YtppghhophaobdaaGreatDoor
open Go.RowKit Go.Sort Go.Maps

set_option maxRecDepth 100000 in
set_option maxHeartbeats 1000000 in
theorem example_any (w : World) : Calls Tryz.prog 52 #[] w fun e w' => ∃ sv, e = .returned (.agg #[.int .i64 2, sv]) ∧ SegsAt w' sv exL ∧ Below w.heap.size w w' := by
  go_enter Tryz.func52, Tryz.ntmps52
  go_wp2
  have hcell : ∀ j u, (#[Value.int IntKind.i64 1, .int .i64 0, .int .i64 2, .int .i64 7] : Array Value)[j]? = some u → ((w.alloc (.cells #[.int .i64 2, .slice (some ⟨w.heap.size + 1, 0, none⟩) 2 2] 40)).alloc (.cells #[.int .i64 1, .int .i64 0, .int .i64 2, .int .i64 7] 98)).cell? ⟨w.heap.size + 1, j, none⟩ = some u := fun j u h => by rw [World.cell?_alloc_at _ _ _ _ (by simp)]; exact h
  refine bodyPost_ret (v := .agg #[.int .i64 2, .slice (some ⟨w.heap.size + 1, 0, none⟩) 2 2]) ?_ rfl ⟨_, rfl, ⟨_, 2, rfl, .inr ⟨w.heap.size + 1, 0, rfl, ?_⟩⟩, ((Below.refl _ _).alloc (Nat.le_refl _) _).alloc (by simp) _⟩
  · have c0 : ((w.alloc (.cells #[.int .i64 2, .slice (some ⟨w.heap.size + 1, 0, none⟩) 2 2] 40)).alloc (.cells #[.int .i64 1, .int .i64 0, .int .i64 2, .int .i64 7] 98)).cell? ⟨w.heap.size, 0, none⟩ = some (.int .i64 2) := by rw [World.cell?_alloc_past _ _ _ (by simp), World.cell?_alloc_at _ _ _ _ rfl]; rfl
    have c1 : ((w.alloc (.cells #[.int .i64 2, .slice (some ⟨w.heap.size + 1, 0, none⟩) 2 2] 40)).alloc (.cells #[.int .i64 1, .int .i64 0, .int .i64 2, .int .i64 7] 98)).cell? ⟨w.heap.size, 1, none⟩ = some (.slice (some ⟨w.heap.size + 1, 0, none⟩) 2 2) := by rw [World.cell?_alloc_past _ _ _ (by simp), World.cell?_alloc_at _ _ _ _ rfl]; rfl
    simp [results, Tryz.results52, go_sem, c0, c1]
  · intro i hi
    match i, hi with
    | 0, _ => exact ⟨hcell 0 _ rfl, hcell 1 _ rfl⟩
    | 1, _ => exact ⟨hcell 2 _ rfl, hcell 3 _ rfl⟩

/-- Make's bytes of the example. -/
theorem make_ex (w : World) (sv : Value) (hs : SegsAt w sv exL) : Calls Tryz.prog 51 #[.agg #[.int .i64 2, sv]] w fun e w' => ∃ r : ByteArray, r.data.toList = exS ∧ e = .returned (.tuple #[.string r, .int .i64 0]) ∧ Below w.heap.size w w' :=
  make_ok w 2 sv exL hs ex_may

end Go.Proofs.YtppghhophaobdaaGreatDoor

/- The walk of awake. -/
namespace Go.Proofs.YtppghhophaobdaaGreatDoor
open Go.RowKit Go.Sort Go.Maps

theorem seg_lt {w : World} {a : Option Addr} {n c : Nat} {l : Segs} (h : SegsAt w (.slice a n c) l) (hl : 0 < l.length) {g : Nat} (hg : (Value.slice a n c).ownBlock = some g) : g < w.heap.size := by
  obtain ⟨b, o, rfl, _, _, hb⟩ := h.at 0 hl
  cases hg; exact hb
theorem file_one (w : World) : FilesAt (w.alloc (.cells #[.string ⟨#[77, 65, 78, 73, 70, 69, 83, 84]⟩, .string ⟨#[111, 108, 100]⟩, .string ⟨#[]⟩] 91)) (.slice (some ⟨w.heap.size, 0, none⟩) 1 1) [⟨fileN, oldS, []⟩] := by
  refine ⟨_, 1, rfl, .inr ⟨w.heap.size, 0, rfl, fun i hi => ?_⟩⟩
  obtain rfl : i = 0 := by simp at hi; omega
  refine ⟨⟨#[77, 65, 78, 73, 70, 69, 83, 84]⟩, ⟨#[111, 108, 100]⟩, ⟨#[]⟩, rfl, rfl, rfl, ?_, ?_, ?_⟩ <;> (rw [World.cell?_alloc_at _ _ _ _ rfl]; rfl)
theorem int_one (w : World) : IntsAt (w.alloc (.cells #[.int .i64 99] 3)) (.slice (some ⟨w.heap.size, 0, none⟩) 1 1) [99] := by
  refine ⟨_, 1, rfl, by simp, .inr ⟨w.heap.size, 0, rfl, fun i hi => ?_⟩⟩
  obtain rfl : i = 0 := by simp at hi; omega
  rw [World.cell?_alloc_at _ _ _ _ rfl]; rfl

set_option maxRecDepth 100000 in
set_option maxHeartbeats 8000000 in
theorem awake_any (w : World) (hp : Pow w) : Calls Tryz.prog 9 #[] w fun e w' => e = .returned (.bool true) ∧ Below w.heap.size w w' := by
  have HP := Lib.hid hp
  clear hp
  go_enter Tryz.func9, Tryz.ntmps9
  go_wp2_with fail
  refine (example_any w).mono ?_
  rintro e w1 ⟨sv1, rfl, hs1, hb1⟩
  have HS1 := Lib.hid hs1
  clear hs1
  go_wp2_with fail
  refine (make_ex w1 sv1 HS1.out).mono ?_
  rintro e w2 ⟨r, hr, rfl, hb2⟩
  have HR := Lib.hid hr
  have hrs : r.size = 50 := by rw [size_of_list hr]; exact ex_len
  have B2 := Lib.hid (hb1.trans (hb2.mono hb1.size))
  clear hr hb1 hb2
  go_wp2_with fail
  refine (read_seal w2 r 2 exL HR.out ex_may).mono ?_
  rintro e w3 ⟨hb3, v3, hv3, _, rfl⟩
  have B3 := Lib.hid (B2.out.trans (hb3.mono B2.out.size))
  obtain ⟨a3, c3, rfl⟩ : ∃ a c, v3 = .slice a 2 c := hv3.at.shape
  have HV3 := Lib.hid hv3.at
  clear hb3 hv3
  go_wp2_with fail
  obtain ⟨mb, hmb⟩ : ∃ mb, mb = w3.heap.size := ⟨_, rfl⟩
  have hbz : Below w3.heap.size w3 (w3.alloc (.cells #[.int .i64 2, .slice a3 2 c3] 40)) := (Below.refl _ _).alloc (Nat.le_refl _) _
  have B4 := Lib.hid (B3.out.trans (hbz.mono B3.out.size))
  have HV4 := Lib.hid (HV3.out.pure hbz)
  have hm0 : (w3.alloc (.cells #[.int .i64 2, .slice a3 2 c3] 40)).cell? ⟨mb, 0, none⟩ = some (.int .i64 2) := by rw [World.cell?_alloc_at _ _ _ _ hmb]; rfl
  have hm1 : (w3.alloc (.cells #[.int .i64 2, .slice a3 2 c3] 40)).cell? ⟨mb, 1, none⟩ = some (.slice a3 2 c3) := by rw [World.cell?_alloc_at _ _ _ _ hmb]; rfl
  rw [← hmb]
  have hml : mb < (w3.alloc (.cells #[.int .i64 2, .slice a3 2 c3] 40)).heap.size := by rw [hmb]; simp
  clear hbz hmb
  generalize (w3.alloc (.cells #[.int .i64 2, .slice a3 2 c3] 40)) = w4 at *
  refine (names_ok w4 (below_pow B4.out HP.out) 2 (.slice a3 2 c3) exL HV4.out ex_may).mono ?_
  rintro e w5 ⟨nv, rfl, hb5, hown5⟩
  obtain ⟨na, nc, hnv, _, hrow⟩ := row_names hown5
  obtain rfl : nv = .slice na 2 nc := hnv
  have B5 := Lib.hid (B4.out.trans (hb5.mono B4.out.size))
  have HV5 := Lib.hid (HV4.out.pure hb5)
  have k0 := (hb5.cell (p := ⟨mb, 0, none⟩) hml).trans hm0
  have k1 := (hb5.cell (p := ⟨mb, 1, none⟩) hml).trans hm1
  obtain ⟨gn, rfl, _, hn1⟩ := hrow 1 (by decide)
  have hml5 : mb < w5.heap.size := Nat.lt_of_lt_of_le hml hb5.size
  clear hb5 hown5 hrow hm0 hm1 hml
  obtain ⟨nm, hnm⟩ : ∃ nm : ByteArray, nm = ⟨((exL.map nameOf)[1]'(by decide)).toArray⟩ := ⟨_, rfl⟩
  rw [← hnm] at hn1
  have hnl : nm.toList = [115, 48, 48, 48, 48, 48, 48, 48, 50, 45, 48, 48, 48, 48, 48, 48, 48, 48, 48, 55] := by rw [ByteArray.toList_eq, hnm]; exact ex_names
  have h14 : (r.extract 0 14).toList = [109, 97, 110, 49, 0, 0, 0, 0, 0, 0, 0, 2, 0, 2] := by rw [ByteArray.toList_eq, cut_list, HR.out]; exact ex_head
  clear hnm
  have tok1 : True := trivial
  have tok2 : True := trivial
  have tok3 : True := trivial
  have tok4 : True := trivial
  go_wp2_with fail
  go_region_held3 (fun w' => w'.cell? ⟨mb, 0, none⟩ = some (.int .i64 2) ∧ w'.cell? ⟨mb, 1, none⟩ = some (.slice a3 2 c3) ∧ w'.cell? ⟨gn, 1, none⟩ = some (.string nm)) (first | exact ⟨t0, t1, hn9⟩ | exact ⟨s0, s1, hn8⟩ | exact ⟨p0, p1, hn7⟩ | exact ⟨m0, m1, hn6⟩ | exact ⟨k0, k1, hn1⟩) (first
    | (go_at_call 52; have _t := tok1; refine (example_any w5.drew).mono ?_; rintro e w6 ⟨sv6, rfl, hs6, hb6⟩; have HS6 := Lib.hid hs6; have HV6 := Lib.hid ((show SegsAt w5.drew (.slice a3 2 c3) exL from HV5.out).pure hb6); have m0 := (hb6.cell (p := ⟨mb, 0, none⟩) hml5).trans k0; have m1 := (hb6.cell (p := ⟨mb, 1, none⟩) hml5).trans k1; have hml6 : mb < w6.heap.size := Nat.lt_of_lt_of_le hml5 hb6.size; have hn6 := (hb6.cell (p := ⟨gn, 1, none⟩) (ltOfCell (show w5.drew.cell? _ = _ from hn1))).trans hn1; have B6 := Lib.hid (B5.out.drew.trans (hb6.mono B5.out.size)); clear tok1 hs6 hb6)
    | (go_at_call 34; have _t := tok2; refine (same_any w6 2 2 (.slice a3 2 c3) sv6 exL exL HV6.out HS6.out (by decide) (by decide)).mono ?_; rintro e w7 ⟨rfl, hb7⟩; have HV7 := Lib.hid (HV6.out.pure hb7); have p0 := (hb7.cell (p := ⟨mb, 0, none⟩) hml6).trans m0; have p1 := (hb7.cell (p := ⟨mb, 1, none⟩) hml6).trans m1; have hml7 : mb < w7.heap.size := Nat.lt_of_lt_of_le hml6 hb7.size; have hn7 := (hb7.cell (p := ⟨gn, 1, none⟩) (ltOfCell hn6)).trans hn6; have B7 := Lib.hid (B6.out.trans (hb7.mono B6.out.size)); clear tok2 hb7)
    | (go_at_call 55; have _t := tok3; refine (find_any w7 2 (.slice a3 2 c3) exL HV7.out (by decide) 6).mono ?_; rintro e w8 ⟨rfl, hb8⟩; have HV8 := Lib.hid (HV7.out.pure hb8); have s0 := (hb8.cell (p := ⟨mb, 0, none⟩) hml7).trans p0; have s1 := (hb8.cell (p := ⟨mb, 1, none⟩) hml7).trans p1; have hml8 : mb < w8.heap.size := Nat.lt_of_lt_of_le hml7 hb8.size; have hn8 := (hb8.cell (p := ⟨gn, 1, none⟩) (ltOfCell hn7)).trans hn7; have B8 := Lib.hid (B7.out.trans (hb8.mono B7.out.size)); rw [show findB exL 6 = 0 from by decide]; clear tok3 hb8)
    | (go_at_call 55; have _t := tok4; refine (find_any w8 2 (.slice a3 2 c3) exL HV8.out (by decide) 7).mono ?_; rintro e w9 ⟨rfl, hb9⟩; have HV9 := Lib.hid (HV8.out.pure hb9); have t0 := (hb9.cell (p := ⟨mb, 0, none⟩) hml8).trans s0; have t1 := (hb9.cell (p := ⟨mb, 1, none⟩) hml8).trans s1; have hn9 := (hb9.cell (p := ⟨gn, 1, none⟩) (ltOfCell hn8)).trans hn8; have B9 := Lib.hid (B8.out.trans (hb9.mono B8.out.size)); rw [show findB exL 7 = 1 from by decide]; clear tok4 hb9))
  go_wp2
  go_loopw [6] (fun i wr => ∃ cut : Int, i = .int .i64 cut ∧ 2 ≤ cut ∧ cut ≤ 5 ∧ wr.cell? ⟨mb, 0, none⟩ = some (.int .i64 2) ∧ wr.cell? ⟨mb, 1, none⟩ = some (.slice a3 2 c3) ∧ SegsAt wr (.slice a3 2 c3) exL ∧ Below w.heap.size w wr) (fun i _ => 5 - (intOf i).toNat)
  case atStart => exact ⟨2, rfl, by omega, by omega, t0, t1, HV9.out, B9.out⟩
  case round =>
    obtain ⟨cut, rfl, hc0, hc1, m0, m1, hv, hb⟩ := hrel
    have HV := Lib.hid hv
    have hmlr := ltOfCell m0
    have hwb := hb.size
    clear hv k0 k1 hn1 t0 t1 hn9 hnl h14
    rcases (show cut = 2 ∨ cut = 3 ∨ cut = 4 ∨ cut = 5 from by omega) with hc2 | hc3 | hc4 | hc5
    · obtain rfl : cut = 2 := hc2
      have hseg := HV.out
      go_wp2_with fail
      refine (dk_load _ 200 (.slice (some ⟨wr.heap.size, 0, none⟩) 1 1) [⟨fileN, oldS, []⟩] (file_one wr) (by decide) (by intro f hf; rw [List.mem_singleton] at hf; subst hf; decide) (by decide)).mono ?_
      rintro e wa ⟨hba, hla⟩
      rw [ex_load] at hla
      obtain ⟨p, b, hpg, hbg, rfl, hda⟩ := hla
      simp at hpg hbg
      have hga : Below wr.heap.size wr wa := ((Below.refl wr.heap.size wr).alloc (Nat.le_refl _) _).trans (hba.mono (by simp))
      have HDA := Lib.hid hda
      have HGA := Lib.hid hga
      have hsa := hga.size
      clear hba hda
      go_wp2_with fail
      refine (show Calls Tryz.prog 12 #[.pointer (some ⟨p, 0, none⟩), .int .i64 2] wa fun e w' => OpPost p b (awSt 2, 0) wa e w' from dk_cut wa p b (awSt (-1)) HDA.out 2 (by decide) (by decide)).mono ?_
      rintro e wb ⟨rfl, hdb, hfb⟩
      have HDB := Lib.hid hdb
      have hfrb : Fr (fun k => k = p ∨ k = b) wr wb := (Fr.pure HGA.out).trans hfb
      have u0 := hfrb.cellAt m0 (by omega)
      have u1 := hfrb.cellAt m1 (by omega)
      have HVB := Lib.hid ((hseg.pure HGA.out).kept hfb (fun g e => by have := seg_lt hseg (by decide) e; omega))
      have hsb := hfrb.size
      have HFB := Lib.hid hfrb
      clear hdb hfb hfrb
      go_wp2_with fail
      refine (swap_ok wb p b (awSt 2) HDB.out 2 (.slice a3 2 c3) exL HVB.out (by decide) ex_may).mono ?_
      rintro e wc ⟨rfl, hdc, hfc⟩
      have hcode : (dkSwap (awSt 2) 2 exL).2 = 45 := aw2.1
      rw [hcode]
      have HDC := Lib.hid hdc
      have HFC := Lib.hid (HFB.out.trans hfc)
      have hsc := HFC.out.size
      clear hdc hfc hcode u0 u1
      go_wp2_with fail
      have hbz : Below wc.heap.size wc (wc.alloc (.cells #[.int .i64 99] 3)) := (Below.refl _ _).alloc (Nat.le_refl _) _
      refine (dk_crash _ p b _ (HDC.out.pure hbz) (.slice (some ⟨wc.heap.size, 0, none⟩) 1 1) [99] (int_one wc) (fun g e => by cases e; have h1 := HDC.out.lt; have h2 := HDC.out.own.lt; show wc.heap.size ≠ p ∧ wc.heap.size ≠ b; omega)).mono ?_
      rintro e wd ⟨rfl, hdd, hfd⟩
      have HDD := Lib.hid hdd
      have HFD := Lib.hid ((HFC.out.andPure hbz).trans hfd)
      clear hdd hfd hbz
      go_wp2_with fail
      refine (show Calls Tryz.prog 56 #[.pointer (some ⟨p, 0, none⟩), .string ⟨#[77, 65, 78, 73, 70, 69, 83, 84]⟩] wd fun e w' => TextPost (oldS, 0) wd e w' from aw2.2 ▸ dk_read wd p b _ HDD.out ⟨#[77, 65, 78, 73, 70, 69, 83, 84]⟩ (by decide)).mono ?_
      rintro e we ⟨⟨t, ht, rfl⟩, hbe⟩
      have HFE := Lib.hid (HFD.out.andPure hbe)
      have hse := HFE.out.size
      have htl : t.toList = [111, 108, 100] := by rw [ByteArray.toList_eq, ht]; rfl
      have hts : ([111, 108, 100] == r.toList) = false := by
        cases e : ([111, 108, 100] == r.toList : Bool)
        · rfl
        · have := congrArg List.length (eq_of_beq e); rw [ByteArray.toList_eq, HR.out, ex_len] at this; exact absurd this (by decide)
      clear hbe ht
      go_wp2
      go_roundw
      case rel => exact ⟨3, rfl, by omega, by omega, HFE.out.cellAt m0 (by omega), HFE.out.cellAt m1 (by omega), HV.out.kept HFE.out (fun g e => by have := seg_lt hseg (by decide) e; omega), hb.trans (HFE.out.below (by omega) (fun k hk => by omega))⟩
      case measure => simp [intOf]
    · obtain rfl : cut = 3 := hc3
      have hseg := HV.out
      go_wp2_with fail
      refine (dk_load _ 200 (.slice (some ⟨wr.heap.size, 0, none⟩) 1 1) [⟨fileN, oldS, []⟩] (file_one wr) (by decide) (by intro f hf; rw [List.mem_singleton] at hf; subst hf; decide) (by decide)).mono ?_
      rintro e wa ⟨hba, hla⟩
      rw [ex_load] at hla
      obtain ⟨p, b, hpg, hbg, rfl, hda⟩ := hla
      simp at hpg hbg
      have hga : Below wr.heap.size wr wa := ((Below.refl wr.heap.size wr).alloc (Nat.le_refl _) _).trans (hba.mono (by simp))
      have HDA := Lib.hid hda
      have HGA := Lib.hid hga
      have hsa := hga.size
      clear hba hda
      go_wp2_with fail
      refine (show Calls Tryz.prog 12 #[.pointer (some ⟨p, 0, none⟩), .int .i64 3] wa fun e w' => OpPost p b (awSt 3, 0) wa e w' from dk_cut wa p b (awSt (-1)) HDA.out 3 (by decide) (by decide)).mono ?_
      rintro e wb ⟨rfl, hdb, hfb⟩
      have HDB := Lib.hid hdb
      have hfrb : Fr (fun k => k = p ∨ k = b) wr wb := (Fr.pure HGA.out).trans hfb
      have u0 := hfrb.cellAt m0 (by omega)
      have u1 := hfrb.cellAt m1 (by omega)
      have HVB := Lib.hid ((hseg.pure HGA.out).kept hfb (fun g e => by have := seg_lt hseg (by decide) e; omega))
      have hsb := hfrb.size
      have HFB := Lib.hid hfrb
      clear hdb hfb hfrb
      go_wp2_with fail
      refine (swap_ok wb p b (awSt 3) HDB.out 2 (.slice a3 2 c3) exL HVB.out (by decide) ex_may).mono ?_
      rintro e wc ⟨rfl, hdc, hfc⟩
      have hcode : (dkSwap (awSt 3) 2 exL).2 = 45 := aw3.1
      rw [hcode]
      have HDC := Lib.hid hdc
      have HFC := Lib.hid (HFB.out.trans hfc)
      have hsc := HFC.out.size
      clear hdc hfc hcode u0 u1
      go_wp2_with fail
      have hbz : Below wc.heap.size wc (wc.alloc (.cells #[.int .i64 99] 3)) := (Below.refl _ _).alloc (Nat.le_refl _) _
      refine (dk_crash _ p b _ (HDC.out.pure hbz) (.slice (some ⟨wc.heap.size, 0, none⟩) 1 1) [99] (int_one wc) (fun g e => by cases e; have h1 := HDC.out.lt; have h2 := HDC.out.own.lt; show wc.heap.size ≠ p ∧ wc.heap.size ≠ b; omega)).mono ?_
      rintro e wd ⟨rfl, hdd, hfd⟩
      have HDD := Lib.hid hdd
      have HFD := Lib.hid ((HFC.out.andPure hbz).trans hfd)
      clear hdd hfd hbz
      go_wp2_with fail
      refine (show Calls Tryz.prog 56 #[.pointer (some ⟨p, 0, none⟩), .string ⟨#[77, 65, 78, 73, 70, 69, 83, 84]⟩] wd fun e w' => TextPost (oldS, 0) wd e w' from aw3.2 ▸ dk_read wd p b _ HDD.out ⟨#[77, 65, 78, 73, 70, 69, 83, 84]⟩ (by decide)).mono ?_
      rintro e we ⟨⟨t, ht, rfl⟩, hbe⟩
      have HFE := Lib.hid (HFD.out.andPure hbe)
      have hse := HFE.out.size
      have htl : t.toList = [111, 108, 100] := by rw [ByteArray.toList_eq, ht]; rfl
      have hts : ([111, 108, 100] == r.toList) = false := by
        cases e : ([111, 108, 100] == r.toList : Bool)
        · rfl
        · have := congrArg List.length (eq_of_beq e); rw [ByteArray.toList_eq, HR.out, ex_len] at this; exact absurd this (by decide)
      clear hbe ht
      go_wp2
      go_roundw
      case rel => exact ⟨4, rfl, by omega, by omega, HFE.out.cellAt m0 (by omega), HFE.out.cellAt m1 (by omega), HV.out.kept HFE.out (fun g e => by have := seg_lt hseg (by decide) e; omega), hb.trans (HFE.out.below (by omega) (fun k hk => by omega))⟩
      case measure => simp [intOf]
    · obtain rfl : cut = 4 := hc4
      have hseg := HV.out
      go_wp2_with fail
      refine (dk_load _ 200 (.slice (some ⟨wr.heap.size, 0, none⟩) 1 1) [⟨fileN, oldS, []⟩] (file_one wr) (by decide) (by intro f hf; rw [List.mem_singleton] at hf; subst hf; decide) (by decide)).mono ?_
      rintro e wa ⟨hba, hla⟩
      rw [ex_load] at hla
      obtain ⟨p, b, hpg, hbg, rfl, hda⟩ := hla
      simp at hpg hbg
      have hga : Below wr.heap.size wr wa := ((Below.refl wr.heap.size wr).alloc (Nat.le_refl _) _).trans (hba.mono (by simp))
      have HDA := Lib.hid hda
      have HGA := Lib.hid hga
      have hsa := hga.size
      clear hba hda
      go_wp2_with fail
      refine (show Calls Tryz.prog 12 #[.pointer (some ⟨p, 0, none⟩), .int .i64 4] wa fun e w' => OpPost p b (awSt 4, 0) wa e w' from dk_cut wa p b (awSt (-1)) HDA.out 4 (by decide) (by decide)).mono ?_
      rintro e wb ⟨rfl, hdb, hfb⟩
      have HDB := Lib.hid hdb
      have hfrb : Fr (fun k => k = p ∨ k = b) wr wb := (Fr.pure HGA.out).trans hfb
      have u0 := hfrb.cellAt m0 (by omega)
      have u1 := hfrb.cellAt m1 (by omega)
      have HVB := Lib.hid ((hseg.pure HGA.out).kept hfb (fun g e => by have := seg_lt hseg (by decide) e; omega))
      have hsb := hfrb.size
      have HFB := Lib.hid hfrb
      clear hdb hfb hfrb
      go_wp2_with fail
      refine (swap_ok wb p b (awSt 4) HDB.out 2 (.slice a3 2 c3) exL HVB.out (by decide) ex_may).mono ?_
      rintro e wc ⟨rfl, hdc, hfc⟩
      have hcode : (dkSwap (awSt 4) 2 exL).2 = 0 := aw4.1
      rw [hcode]
      have HDC := Lib.hid hdc
      have HFC := Lib.hid (HFB.out.trans hfc)
      have hsc := HFC.out.size
      clear hdc hfc hcode u0 u1
      go_wp2_with fail
      have hbz : Below wc.heap.size wc (wc.alloc (.cells #[.int .i64 99] 3)) := (Below.refl _ _).alloc (Nat.le_refl _) _
      refine (dk_crash _ p b _ (HDC.out.pure hbz) (.slice (some ⟨wc.heap.size, 0, none⟩) 1 1) [99] (int_one wc) (fun g e => by cases e; have h1 := HDC.out.lt; have h2 := HDC.out.own.lt; show wc.heap.size ≠ p ∧ wc.heap.size ≠ b; omega)).mono ?_
      rintro e wd ⟨rfl, hdd, hfd⟩
      have HDD := Lib.hid hdd
      have HFD := Lib.hid ((HFC.out.andPure hbz).trans hfd)
      clear hdd hfd hbz
      go_wp2_with fail
      refine (show Calls Tryz.prog 56 #[.pointer (some ⟨p, 0, none⟩), .string ⟨#[77, 65, 78, 73, 70, 69, 83, 84]⟩] wd fun e w' => TextPost (exS, 0) wd e w' from aw4.2 ▸ dk_read wd p b _ HDD.out ⟨#[77, 65, 78, 73, 70, 69, 83, 84]⟩ (by decide)).mono ?_
      rintro e we ⟨⟨t, ht, rfl⟩, hbe⟩
      have HFE := Lib.hid (HFD.out.andPure hbe)
      have hse := HFE.out.size
      have hts : (t.toList == r.toList) = true := str_eq_true (by rw [ht, HR.out])
      have hto : (t.toList == [111, 108, 100]) = false := by
        cases e : (t.toList == [111, 108, 100] : Bool)
        · rfl
        · have := congrArg List.length (eq_of_beq e); rw [ByteArray.toList_eq, ht, ex_len] at this; exact absurd this (by decide)
      clear hbe ht
      go_wp2
      go_roundw
      case rel => exact ⟨5, rfl, by omega, by omega, HFE.out.cellAt m0 (by omega), HFE.out.cellAt m1 (by omega), HV.out.kept HFE.out (fun g e => by have := seg_lt hseg (by decide) e; omega), hb.trans (HFE.out.below (by omega) (fun k hk => by omega))⟩
      case measure => simp [intOf]
    · obtain rfl : cut = 5 := hc5
      go_wp2
      go_ret
      exact ⟨rfl, hb⟩

end Go.Proofs.YtppghhophaobdaaGreatDoor

/- The walk of given. -/
namespace Go.Proofs.YtppghhophaobdaaGreatDoor
open Go.RowKit Go.Sort

set_option maxRecDepth 100000 in
set_option maxHeartbeats 2000000 in
theorem given_any (w : World) (g : Int) (sv : Value) (l : Segs) (hs : SegsAt w sv l) (hl : l.length ≤ 1000000) :
    Calls Tryz.prog 15 #[.agg #[.int .i64 g, sv]] w fun e w' => ∃ v, e = .returned (.agg #[.int .i64 g, v]) ∧ OwnSegs w' v l ∧ (∀ b, v.ownBlock = some b → w.heap.size ≤ b) ∧ Below w.heap.size w w' := by
  obtain ⟨a, c, rfl⟩ := hs.shape
  have HS := Lib.hid hs
  clear hs
  go_enter Tryz.func15, Tryz.ntmps15
  go_wp2
  go_loopw [4] (fun i wr => ∃ (k : Nat) (v : Value), i = .int .i64 k ∧ k ≤ l.length ∧ wr.heap[w.heap.size + 1 + 1]? = some (.cells #[.int .i64 g, v] 40 (0, 0)) ∧ wr.ownsRow (w.heap.size + 1 + 1 + 1) 98 2 v k (segCells (l.take k)) ∧
    Below (w.heap.size + 1 + 1) (((w.alloc (.cells #[.int .i64 g, .slice a l.length c] 25)).alloc (.cells #[.int .i64 0, .slice none 0 0] 40)).alloc (.cells #[.int .i64 g, .slice none 0 0] 40)) wr) (fun i _ => l.length - (intOf i).toNat)
  case atStart => exact ⟨0, .slice none 0 0, rfl, by omega, alloc_at_top _ _ (by simp), World.ownsRow_nil _ _ _ _, Below.refl _ _⟩
  case round =>
    obtain ⟨k, v, rfl, hk, hbox, hown, hb⟩ := hrel
    have hsz := hb.size
    simp at hsz
    have hszl : w.heap.size + 1 + 1 < wr.heap.size := by omega
    have m1 : wr.cell? ⟨w.heap.size, 1, none⟩ = some (.slice a l.length c) := by rw [hb.cell (by show w.heap.size < _; omega), World.cell?_alloc_past _ _ _ (by simp; omega), World.cell?_alloc_past _ _ _ (by simp), World.cell?_alloc_at _ _ _ _ rfl]; rfl
    have hrb : wr.heap[w.heap.size + 1]? = some (.cells #[.int .i64 0, .slice none 0 0] 40 (0, 0)) := (hb.block _ (by omega)).trans ((Below.heap_alloc _ _ _ (by simp)).trans (alloc_at_top _ _ (by simp)))
    have r0 : wr.cell? ⟨w.heap.size + 1, 0, none⟩ = some (.int .i64 0) := by rw [cell_of_row _ _ _ _ _ _ hrb]; rfl
    have r1 : wr.cell? ⟨w.heap.size + 1, 1, none⟩ = some (.slice none 0 0) := by rw [cell_of_row _ _ _ _ _ _ hrb]; rfl
    have zr0 : wr.frozen? ⟨w.heap.size + 1, 0, none⟩ = false := frozen_of_row _ _ _ _ _ hrb
    have zr1 : wr.frozen? ⟨w.heap.size + 1, 1, none⟩ = false := frozen_of_row _ _ _ _ _ hrb
    obtain ⟨a0, n0, c0, rfl⟩ := own_shape hown
    have q1 : wr.cell? ⟨w.heap.size + 1 + 1, 1, none⟩ = some (.slice a0 n0 c0) := by rw [cell_of_row _ _ _ _ _ _ hbox]; rfl
    have q0 : wr.cell? ⟨w.heap.size + 1 + 1, 0, none⟩ = some (.int .i64 g) := by rw [cell_of_row _ _ _ _ _ _ hbox]; rfl
    have z1 : wr.frozen? ⟨w.heap.size + 1 + 1, 1, none⟩ = false := frozen_of_row _ _ _ _ _ hbox
    have HBX := Lib.hid hbox
    have HO := Lib.hid hown
    clear hbox hown
    by_cases hlt : k < l.length
    · clear hrb r0 r1 zr0 zr1
      obtain ⟨b, o, rfl, h1, h2, hbl⟩ := HS.out.at k hlt
      have hc1 : wr.cell? ⟨b, o + k * 2, none⟩ = some (.int .i64 l[k].1) := by rw [hb.cell (by show b < _; omega), World.cell?_alloc_past _ _ _ (by simp; omega), World.cell?_alloc_past _ _ _ (by simp; omega), World.cell?_alloc_past _ _ _ hbl]; exact h1
      have hc2 : wr.cell? ⟨b, o + k * 2 + 1, none⟩ = some (.int .i64 l[k].2) := by rw [hb.cell (by show b < _; omega), World.cell?_alloc_past _ _ _ (by simp; omega), World.cell?_alloc_past _ _ _ (by simp; omega), World.cell?_alloc_past _ _ _ hbl]; exact h2
      clear h1 h2
      have hfar : ∀ j, (Value.slice a0 n0 c0).ownBlock = some j → w.heap.size + 1 + 1 + 1 ≤ j := fun j e => own_ge HO.out e
      obtain ⟨i0, hi, hz0, hz1, hz2⟩ := info_parts Tryz.infoEntry
      have HI := Lib.hid hi
      have HZ0 := Lib.hid hz0
      have HZ1 := Lib.hid hz1
      have HZ2 := Lib.hid hz2
      clear hi hz0 hz1 hz2
      have HO1 := Lib.hid ((World.ownsRow.drew HO.out).alloc (.cells #[.int .i64 l[k].1, .int .i64 l[k].2] 98))
      have hbx1 := (Below.heap_alloc wr.drew (.cells #[.int .i64 l[k].1, .int .i64 l[k].2] 98) _ hszl).trans HBX.out
      have HBX1 := Lib.hid hbx1
      clear hbx1
      go_wp2_with fail
      go_region_law (refine step_append_lies _ (by rfl) _ _ _ (by rfl) (w.heap.size + 1 + 1 + 1) 98 i0 _ 2 16 Tryz.underlying38 HI.out HZ0.out HZ1.out HZ2.out rfl (by omega) _ k _ (by rfl) HO1.out ⟨wr.heap.size, 0, none⟩ 1 1 [.int .i64 l[k].1, .int .i64 l[k].2] (by rfl) (by rfl) (cells_new rfl rfl) (by simp [Value.oneCell']) (by omega) (by unfold maxLen; omega) (by omega) (by simp; omega) (wr.heap.size + 1) (by simp) ?_; intro gg cap w8 hown8 hgrow8 hat8 hlt8; have hbx8 := (hgrow8.block _ (by simp; omega) (fun e => by have := hfar _ e.symm; omega)).trans HBX1.out; have HBX8 := Lib.hid hbx8; have hc8 : w8.cell? ⟨w.heap.size + 1 + 1, 1, none⟩ = some (.slice a0 n0 c0) := (cell_of_row w8 _ 1 _ _ _ hbx8).trans rfl; have hf8 := frozen_of_row w8 _ 1 _ _ hbx8; clear hbx8)
      all_goals go_wp2
      all_goals
        go_roundw
        case rel =>
          have hge := own_ge hown8 (g := gg) rfl
          refine ⟨k + 1, _, by go_num, by omega, heap_setCell_same w8 _ 1 _ _ _ HBX8.out, ?_, ?_⟩
          · refine ownsRow_setCell_other ?_ (by show some gg ≠ some (w.heap.size + 1 + 1); intro e; cases e; omega) _
            rw [List.take_succ_eq_append_getElem hlt]
            have := segCells_snoc (l.take k) l[k].1 l[k].2
            rw [show (l[k].1, l[k].2) = l[k] from rfl] at this
            rw [this]; exact hown8
          · exact (((hb.drew).alloc (by simp; omega) _).grown hgrow8 (by simp; omega) (fun j e => by have := hfar j e; omega)).setCell (Nat.le_refl _) _
        case measure => simp [intOf]; omega
    · have hkl : k = l.length := by omega
      subst hkl
      rw [List.take_length] at HO
      go_wp2
      have HB0 : Below w.heap.size w wr := (((((Below.refl w.heap.size w).alloc (Nat.le_refl _) _).alloc (by simp) _).alloc (by simp; omega) _)).trans (hb.mono (by omega))
      have s0 : ((wr.setCell ⟨w.heap.size + 1, 0, none⟩ (.int .i64 g)).setCell ⟨w.heap.size + 1, 1, none⟩ (.slice a0 n0 c0)).cell? ⟨w.heap.size + 1, 0, none⟩ = some (.int .i64 g) := by
        rw [World.cell?_setCell_other _ _ _ _ (by simp), World.cell?_setCell_same _ _ _ r0]
      have s1 : ((wr.setCell ⟨w.heap.size + 1, 0, none⟩ (.int .i64 g)).setCell ⟨w.heap.size + 1, 1, none⟩ (.slice a0 n0 c0)).cell? ⟨w.heap.size + 1, 1, none⟩ = some (.slice a0 n0 c0) :=
        World.cell?_setCell_same _ _ _ ((World.cell?_setCell_other _ _ _ _ (by simp)).trans r1)
      have hfar : ∀ j, (Value.slice a0 n0 c0).ownBlock = some j → w.heap.size + 1 + 1 + 1 ≤ j := fun j e => own_ge HO.out e
      refine bodyPost_ret (v := .agg #[.int .i64 g, .slice a0 n0 c0]) (by simp [results, Tryz.results15, go_sem, s0, s1]) rfl ⟨_, rfl, ?_, fun j e => by have := hfar j e; omega, (HB0.setCell (by show w.heap.size ≤ w.heap.size + 1; omega) _).setCell (by show w.heap.size ≤ w.heap.size + 1; omega) _⟩
      unfold OwnSegs
      exact ownsRow_setCell_other (ownsRow_setCell_other (ownsRow_base HO.out (fun _ _ => Nat.zero_le _)) (fun e => by have := hfar _ e; simp at this; omega) _) (fun e => by have := hfar _ e; simp at this; omega) _

end Go.Proofs.YtppghhophaobdaaGreatDoor

/- What the laws of souklaw13 need, in one place. -/


/- What the laws of souklaw13 need, in one place. -/


/- The walks of Room and Copy. -/
namespace Go.Proofs.YtppghhophaobdaaGreatDoor
open Go.RowKit Go.Maps Go.Sort

theorem IsDk.len {w : World} {p b : Nat} {st : DkSt} (h : IsDk w p b st) (ty : TypeId) : (Builtin.len_ #[108] ty #[.map (some b)]).run Tryz.prog w = .ok (.int .i64 (st.fs.length : Nat)) w := by
  have := h.own.len (t := 108) Tryz.underlying108 ty
  rw [size_fs] at this; exact this

def dkRoom (st : DkSt) : Value := if st.dark then .tuple #[.int .i64 0, .int .i64 0, .int .i64 45] else .tuple #[.int .i64 (st.cap - (used st.fs : Int)), .int .i64 (64 - (st.fs.length : Int)), .int .i64 0]

set_option maxRecDepth 100000 in
set_option maxHeartbeats 1000000 in
theorem dk_room (w : World) (p b : Nat) (st : DkSt) (h : IsDk w p b st) :
    Calls Tryz.prog 155 #[.pointer (some ⟨p, 0, none⟩)] w fun e w' => e = .returned (dkRoom st) ∧ Below w.heap.size w w' := by
  have H := Lib.hid h
  have hul := used_le h.ok.fs
  have hcap0 := h.ok.cap0
  have hcap1 := h.ok.cap1
  have hfit := h.ok.fits
  have hfew := h.ok.fs.few
  obtain ⟨c0, c1, c2, c3⟩ := h.cs
  clear h c2 c3
  cases hd : st.dark
  · have HD := Lib.hid hd
    clear hd
    go_enter Tryz.func155, Tryz.ntmps155
    go_wp2_with fail
    refine (dk_down w p b st H.out).mono ?_
    rintro e w1 ⟨rfl, rfl⟩
    rw [HD.out]
    have k0 := cell_regrown c0
    have k1 := cell_regrown c1
    have q1 : ∀ d os, Calls Tryz.prog 33 #[.pointer (some ⟨p, 0, none⟩)] (grow (redrawn w d) os) fun e w'' => e = .returned (.int .i64 (used st.fs : Int)) ∧ ∃ p : Regrown, w'' = grow (redrawn w p.d) p.os := fun d os => Calls.regrown_of (dk_used _ p b st (H.out.pure (below_regrown w d os)))
    have q2 : ∀ d os ty, (Builtin.len_ #[108] ty #[.map (some b)]).run Tryz.prog (grow (redrawn w d) os) = .ok (.int .i64 (st.fs.length : Nat)) (grow (redrawn w d) os) := fun d os ty => (H.out.pure (below_regrown w d os)).len ty
    have w1e : IntKind.i64.wrap (st.cap - (used st.fs : Int)) = st.cap - (used st.fs : Int) := IntWalk.i64_in _ (by omega)
    have w2e : IntKind.i64.wrap (64 - (st.fs.length : Int)) = 64 - (st.fs.length : Int) := IntWalk.i64_in _ (by omega)
    go_wp2_with fail
    refine wp_region_quiet_below (by kernel_rfl) (by kernel_rfl) ?_
    repeat (go_big_quiet_step (first | exact q1 _ _))
    refine wpQuiet_nil ?_
    intro _ hw'
    obtain ⟨⟨dq, osq⟩, hw''⟩ := hw'
    subst hw''
    clear k0 k1 q1 q2
    go_wp2
    go_ret3
    refine ⟨?_, below_regrown w dq osq⟩
    unfold dkRoom
    rw [HD.out]; rfl
  · have HD := Lib.hid hd
    clear hd
    go_enter Tryz.func155, Tryz.ntmps155
    go_wp2_with fail
    refine (dk_down w p b st H.out).mono ?_
    rintro e w1 ⟨rfl, rfl⟩
    rw [HD.out]
    go_wp2
    go_ret3
    refine ⟨?_, Below.refl _ _⟩
    unfold dkRoom
    rw [HD.out]; rfl

set_option maxRecDepth 100000 in
set_option maxHeartbeats 1000000 in
theorem clone_files (w : World) (b : Nat) (es : Array MapEntry) (clock : Nat) (hb : w.heap[b]? = some (.map es clock)) :
    Calls Tryz.prog 108 #[.map (some b)] w fun e w' => e = .returned (.map (some w.heap.size)) ∧ w' = w.alloc (.map es clock) := by
  have hq := fun w => run_eql_map_nil_sl (P := Tryz.prog) w 108 _ _ (some b) Tryz.underlying108
  go_enter Tryz.func108, Tryz.ntmps108
  go_wp2
  rw [run_callFunc_extern Tryz.func168 (by kernel_rfl) (by kernel_rfl) (by kernel_rfl) (e := Extern.MapsClone.clone) (by kernel_rfl), run_maps_clone_sl w 108 hb]
  simp only [Result.andThen]
  rw [Oper.upon_value]
  go_wp2
  rw [run_typeAssert_map_sl _ 108 _ _ _ _ Tryz.underlying108]
  simp only [Result.andThen]
  rw [Oper.upon_value]
  go_wp2
  go_ret
  exact ⟨rfl, rfl⟩

/-- A disk of its own, alike. -/
def CopyPost (st : DkSt) (w : World) (e : Ending) (w' : World) : Prop := Below w.heap.size w w' ∧ ∃ q c, w.heap.size ≤ q ∧ w.heap.size ≤ c ∧ e = .returned (.pointer (some ⟨q, 0, none⟩)) ∧ IsDk w' q c st

set_option maxRecDepth 100000 in
set_option maxHeartbeats 1000000 in
theorem dk_copy (w : World) (p b : Nat) (st : DkSt) (h : IsDk w p b st) :
    Calls Tryz.prog 44 #[.pointer (some ⟨p, 0, none⟩)] w fun e w' => CopyPost st w e w' := by
  have H := Lib.hid h
  have hp := h.lt
  have hbl := h.own.lt
  obtain ⟨c0, c1, c2, c3⟩ := h.cs
  clear h
  go_enter Tryz.func44, Tryz.ntmps44
  go_wp2_with fail
  have c0' : (w.alloc (.cells #[.map (some b), .int .i64 st.cap, .int .i64 st.left, .bool st.dark] 110)).cell? ⟨p, 0, none⟩ = some (.map (some b)) := by rw [World.cell?_alloc_past _ _ _ hp]; exact c0
  obtain ⟨es, clock, hb, F, hs, hD⟩ := H.out.own
  have HB := Lib.hid (And.intro hb (And.intro F (And.intro hs hD)))
  clear hb F hs hD
  refine (clone_files _ b es clock ((Below.heap_alloc _ _ _ hbl).trans HB.out.1)).mono ?_
  rintro e w2 ⟨rfl, rfl⟩
  go_wp2
  go_ret
  refine ⟨((Below.refl _ _).alloc (Nat.le_refl _) _).alloc (by simp) _, w.heap.size, w.heap.size + 1, Nat.le_refl _, by omega, rfl, ?_, ?_, H.out.ok⟩
  · exact (Below.heap_alloc _ _ _ (by simp)).trans (alloc_at_top _ _ rfl)
  · exact ⟨es, clock, alloc_at_top _ _ (by simp), HB.out.2.1, HB.out.2.2.1, HB.out.2.2.2⟩
end Go.Proofs.YtppghhophaobdaaGreatDoor

/- The walk of the law ManifRoom. -/
namespace Go.Proofs.YtppghhophaobdaaGreatDoor
open Go.RowKit Go.Maps Go.Sort

theorem ins_del {f : FileS} {fs : Fs} (h : fsGet fs f.name = none) : fsDel (fsIns f fs) f.name = fs := by
  induction fs with
  | nil => unfold fsIns fsDel; simp
  | cons g r ih =>
    have hg : g.name ≠ f.name := fun e => by rw [← e, get_cons_eq] at h; cases h
    rw [get_cons_ne hg] at h
    have hk : ∀ (l : Fs), fsDel (g :: l) f.name = g :: fsDel l f.name := fun l => by unfold fsDel; rw [List.filter_cons, show (g.name == f.name) = false from by simpa using hg]; rfl
    unfold fsIns
    split
    · rw [show fsDel (f :: g :: r) f.name = fsDel (g :: r) f.name from by unfold fsDel; rw [List.filter_cons, show (f.name == f.name) = true from by simp]; rfl, hk, del_none h]
    · rw [hk, ih h]

/-- The disk without MANIFEST.new. -/
def noFresh (st : DkSt) : DkSt := { st with fs := fsDel st.fs freshN }
def roomFor (st : DkSt) (m : Segs) : Prop := (18 : Int) + 16 * (m.length : Int) ≤ st.cap - (used (noFresh st).fs : Int) ∧ 1 ≤ 64 - ((noFresh st).fs.length : Int)

theorem delete_fresh (st : DkSt) (hd : st.dark = false) (hl : st.left = -1) : (dkDelete st freshN).1 = noFresh st ∧ ((dkDelete st freshN).2 = 0 ∨ (dkDelete st freshN).2 = 5) := by
  unfold dkDelete noFresh
  rw [hd]
  cases h : fsGet st.fs freshN with
  | none => simp only [Bool.false_eq_true, if_false]; rw [del_none h, ← hd]; simp
  | some f => simp only [Bool.false_eq_true, if_false]; unfold doing; rw [if_neg (by rw [hl]; decide), hl]; simp [dec, hd]

theorem swap_room (st : DkSt) (hd : st.dark = false) (hl : st.left = -1) (g : Int) (m : Segs) (hm : mayB g m = true) : (roomFor st m → (dkSwap st g m).2 = 0 ∧ (dkSwap st g m).1.dark = false) ∧ (¬ roomFor st m → dkSwap st g m = (noFresh st, 44)) := by
  obtain ⟨_, _, _, hml, _⟩ := mayB_all hm
  have hlen : (Crc.seal_ (manBytes g m)).length = 18 + 16 * m.length := by rw [Crc.seal_length, manBytes_length]; omega
  obtain ⟨d1, d2⟩ := delete_fresh st hd hl
  have hs : dkSwap st g m = (swapEnd (swapL (Crc.seal_ (manBytes g m)) [0, 1, 2, 3, 4] st).2 (swapL (Crc.seal_ (manBytes g m)) [0, 1, 2, 3, 4] st).1) := by unfold dkSwap; rw [hm]; rfl
  generalize Crc.seal_ (manBytes g m) = s at hs hlen
  have hn0 : fsGet (noFresh st).fs freshN = none := get_del_eq _ _
  have e0 : swapL s [0, 1, 2, 3, 4] st = swapL s [1, 2, 3, 4] (noFresh st) := by
    rw [swapL, if_neg (by rintro ⟨a, b⟩; rcases d2 with h | h; exact a h; exact b ⟨rfl, h⟩)]
    show swapL s [1, 2, 3, 4] (dkDelete st freshN).1 = _
    rw [d1]
  have hdn : (noFresh st).dark = false := hd
  have hln : (noFresh st).left = -1 := hl
  have hcn : (noFresh st).cap = st.cap := rfl
  unfold roomFor
  rw [hs, e0, ← hcn]
  generalize noFresh st = sn at *
  have hdel : ∀ st' : DkSt, st'.dark = false → fsGet st'.fs freshN = none → swapEnd 44 st' = (st', 44) := by
    intro st' h1 h2
    have : dkDelete st' freshN = (st', 5) := by unfold dkDelete; rw [h1, h2]; rfl
    unfold swapEnd; rw [if_pos rfl, this]; rfl
  by_cases h1 : 64 ≤ sn.fs.length
  · have e1 : stepF s 1 sn = (sn, 44) := by
      show dkCreate sn freshN = _
      unfold dkCreate
      rw [hdn, hn0, show mayName freshN = true from by decide +kernel]
      simp [h1]
    have e2 : swapL s [1, 2, 3, 4] sn = (sn, 44) := by rw [swapL, e1]; rfl
    rw [e2]
    refine ⟨fun h => by omega, fun _ => hdel sn hdn hn0⟩
  · have e1 : stepF s 1 sn = ({ sn with fs := fsPut sn.fs ⟨freshN, [], []⟩ }, 0) := by
      show dkCreate sn freshN = _
      unfold dkCreate doing
      rw [hdn, hn0, show mayName freshN = true from by decide +kernel, hln]
      simp [h1, dec]
    have e2 : swapL s [1, 2, 3, 4] sn = swapL s [2, 3, 4] { sn with fs := fsPut sn.fs ⟨freshN, [], []⟩ } := by rw [swapL, e1]; rfl
    rw [e2]
    have hu : used (fsPut sn.fs ⟨freshN, [], []⟩) = used sn.fs := by rw [used_put, del_none hn0]; simp
    have hg : fsGet (fsPut sn.fs ⟨freshN, [], []⟩) freshN = some ⟨freshN, [], []⟩ := get_put_eq ⟨freshN, [], []⟩ _
    by_cases h2 : sn.cap - (used sn.fs : Int) < (s.length : Int)
    · have e3 : stepF s 2 { sn with fs := fsPut sn.fs ⟨freshN, [], []⟩ } = ({ sn with fs := fsPut sn.fs ⟨freshN, [], []⟩ }, 44) := by
        show dkAppend _ freshN s = _
        unfold dkAppend
        simp only [hdn, hg, hu, Bool.false_eq_true, if_false]
        rw [if_pos (.inr h2)]
      have e4 : swapL s [2, 3, 4] { sn with fs := fsPut sn.fs ⟨freshN, [], []⟩ } = ({ sn with fs := fsPut sn.fs ⟨freshN, [], []⟩ }, 44) := by rw [swapL, e3]; rfl
      rw [e4]
      refine ⟨fun h => by omega, fun _ => ?_⟩
      have : dkDelete { sn with fs := fsPut sn.fs ⟨freshN, [], []⟩ } freshN = (sn, 0) := by
        unfold dkDelete doing
        simp only [hdn, hg, hln, Bool.false_eq_true, if_false]
        rw [if_neg (by decide)]
        have e9 : fsDel (fsPut sn.fs ⟨freshN, [], []⟩) freshN = sn.fs := by
          unfold fsPut
          rw [show fsDel sn.fs (FileS.name ⟨freshN, [], []⟩) = sn.fs from del_none hn0]
          exact ins_del (f := ⟨freshN, [], []⟩) hn0
        rw [e9]
        obtain ⟨a, b, c, d⟩ := sn
        simp only at hdn hln
        subst hdn hln
        rfl
      unfold swapEnd
      rw [if_pos rfl, this]; rfl
    · refine ⟨fun _ => ?_, fun h => absurd ⟨by omega, by omega⟩ h⟩
      have e3 : stepF s 2 { sn with fs := fsPut sn.fs ⟨freshN, [], []⟩ } = ({ sn with fs := fsPut (fsPut sn.fs ⟨freshN, [], []⟩) ⟨freshN, [], s⟩ }, 0) := by
        show dkAppend _ freshN s = _
        unfold dkAppend
        simp only [hdn, hg, hu, hln, Bool.false_eq_true, if_false]
        rw [if_neg (by rintro (h | h); simp at h; omega; exact h2 h), if_neg (by decide)]
        simp [dec]
      have hg2 : fsGet (fsPut (fsPut sn.fs ⟨freshN, [], []⟩) ⟨freshN, [], s⟩) freshN = some ⟨freshN, [], s⟩ := get_put_eq ⟨freshN, [], s⟩ _
      have e4 : stepF s 3 { sn with fs := fsPut (fsPut sn.fs ⟨freshN, [], []⟩) ⟨freshN, [], s⟩ } = ({ sn with fs := fsPut (fsPut (fsPut sn.fs ⟨freshN, [], []⟩) ⟨freshN, [], s⟩) ⟨freshN, s, []⟩ }, 0) := by
        show dkSync _ freshN = _
        unfold dkSync doing
        simp only [hdn, hg2, hln, Bool.false_eq_true, if_false]
        rw [if_neg (by decide)]
        simp [dec]
      have hg3 : fsGet (fsPut (fsPut (fsPut sn.fs ⟨freshN, [], []⟩) ⟨freshN, [], s⟩) ⟨freshN, s, []⟩) freshN = some ⟨freshN, s, []⟩ := get_put_eq ⟨freshN, s, []⟩ _
      rw [swapL, e3, if_neg (by simp), swapL, e4, if_neg (by simp)]
      rcases ends_4 s (st := { sn with fs := fsPut (fsPut (fsPut sn.fs ⟨freshN, [], []⟩) ⟨freshN, [], s⟩) ⟨freshN, s, []⟩ }) hdn hg3 with ⟨k1, k2, _⟩ | ⟨_, _, k3, _⟩
      · rw [swapL, if_neg (by rw [k1]; simp)]
        show (swapEnd 0 _).2 = 0 ∧ (swapEnd 0 _).1.dark = false
        rw [swapEnd_ne (by decide)]
        exact ⟨rfl, k2⟩
      · rw [show ({ sn with fs := fsPut (fsPut (fsPut sn.fs ⟨freshN, [], []⟩) ⟨freshN, [], s⟩) ⟨freshN, s, []⟩ } : DkSt).left = sn.left from rfl, hln] at k3; exact absurd k3 (by decide)

end Go.Proofs.YtppghhophaobdaaGreatDoor
