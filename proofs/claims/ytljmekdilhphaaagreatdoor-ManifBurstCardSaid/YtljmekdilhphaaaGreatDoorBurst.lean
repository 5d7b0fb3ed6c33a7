/- The walk of the law ManifBurst. -/
import Derived.Test.YtljmekdilhphaaaGreatDoorBack
import Derived.Lib.ConvBytes
import Derived.Deep.RegionHeld3
import Derived.Test.YtljmekdilhphaaaGreatDoorBurstP
namespace Go.Proofs.YtljmekdilhphaaaGreatDoor
open Go.RowKit Go.Sort

set_option maxRecDepth 100000 in
set_option maxHeartbeats 4000000 in
theorem manifBurst_any (w : World) (hp : Pow w) (g : Int) (sv : Value) (l : Segs) (hs : SegsAt w sv l) (hl : l.length ≤ 9223372036854775807) (pl : Int) (pat : BitVec 32) :
    Calls Tryz.prog 3 #[.agg #[.int .i64 g, sv], .int .i64 pl, .int .u32 (pat.toNat : Int)] w fun e w' => e = .returned (.bool true) ∧ Below w.heap.size w w' := by
  obtain ⟨a, c, rfl⟩ := hs.shape
  have hbz : Below w.heap.size w (w.alloc (.cells #[.int .i64 g, .slice a l.length c] 24)) := (Below.refl _ _).alloc (Nat.le_refl _) _
  have HB := Lib.hid hbz
  have HP := Lib.hid (below_pow hbz hp)
  have HS := Lib.hid hs
  clear hs hp hbz
  by_cases h1 : 100 < l.length
  · go_enter Tryz.func3, Tryz.ntmps3
    go_wp2_with fail
    refine (awake_any _ HP.out).mono ?_
    rintro e w1 ⟨rfl, hb1⟩
    have B1 := Lib.hid (HB.out.trans (hb1.mono (by simp)))
    clear hb1
    go_wp2
    go_ret
    exact ⟨rfl, B1.out⟩
  · go_enter Tryz.func3, Tryz.ntmps3
    go_wp2_with fail
    refine (awake_any _ HP.out).mono ?_
    rintro e w1 ⟨rfl, hb1⟩
    have B1 := Lib.hid (HB.out.trans (hb1.mono (by simp)))
    have n0 : w1.cell? ⟨w.heap.size, 0, none⟩ = some (.int .i64 g) := by rw [hb1.cell (by simp), World.cell?_alloc_at _ _ _ _ rfl]; rfl
    have n1 : w1.cell? ⟨w.heap.size, 1, none⟩ = some (.slice a l.length c) := by rw [hb1.cell (by simp), World.cell?_alloc_at _ _ _ _ rfl]; rfl
    have hl1 : w.heap.size < w1.heap.size := ltOfCell n0
    clear hb1
    go_wp2_with fail
    refine (given_any w1 g (.slice a l.length c) l (HS.out.pure B1.out) (by omega)).mono ?_
    rintro e w2 ⟨v, rfl, hv, hvb, hb2⟩
    have B2 := Lib.hid (B1.out.trans (hb2.mono B1.out.size))
    have n0 := (hb2.cell (p := ⟨w.heap.size, 0, none⟩) hl1).trans n0
    have n1 := (hb2.cell (p := ⟨w.heap.size, 1, none⟩) hl1).trans n1
    have hl2 : w.heap.size < w2.heap.size := ltOfCell n0
    obtain ⟨a1, c1, rfl⟩ := hv.at.shape
    have HV2 := Lib.hid hv.at
    clear hb2 hv
    go_wp2_with fail
    cases hm : mayB g l
    · have HM := Lib.hid hm
      clear hm
      refine (make_bad w2 g (.slice a1 l.length c1) l HV2.out (by omega) HM.out).mono ?_
      rintro e w4 ⟨rfl, hb4⟩
      have B4 := Lib.hid (B2.out.trans (hb4.mono B2.out.size))
      clear hb4
      go_wp2
      go_ret
      exact ⟨rfl, B4.out⟩
    · have HM := Lib.hid hm
      have hl64 := may_len hm
      clear hm
      refine (make_ok w2 g (.slice a1 l.length c1) l HV2.out HM.out).mono ?_
      rintro e w4 ⟨r, hr, rfl, hb4⟩
      have HR := Lib.hid hr
      have hrs : r.size = 18 + 16 * l.length := by rw [size_of_list hr, Crc.seal_length, manBytes_length]; omega
      have hrl := Lib.hid (show r.data.toList.length = 18 + 16 * l.length from by rw [size_toList]; exact hrs)
      have hr1 : 18 ≤ r.size := by omega
      have hr2 : r.size ≤ 2000 := by omega
      have hE : r.toList.isEmpty = false := by
        rw [ByteArray.toList_eq]
        cases hq : r.data.toList with
        | nil => have := hrl.out; rw [hq] at this; simp at this; omega
        | cons => rfl
      have B4 := Lib.hid (B2.out.trans (hb4.mono B2.out.size))
      have n0 := (hb4.cell (p := ⟨w.heap.size, 0, none⟩) hl2).trans n0
      have n1 := (hb4.cell (p := ⟨w.heap.size, 1, none⟩) hl2).trans n1
      clear hb4 hr
      have HRS := Lib.hid hrs
      clear hrs
      have hcv := Lib.run_convert_string_bytes w4 9 34 5 r Tryz.underlying9 Tryz.underlying34 Tryz.underlying5
      obtain ⟨wb, hwb⟩ : ∃ wb, wb = Lib.bytesWorld w4 5 r := ⟨_, rfl⟩
      rw [← hwb] at hcv
      have hbs : wb.heap.size = w4.heap.size + 1 := by rw [hwb]; exact Lib.bytesWorld_size _ _ _
      have HW := Lib.hid hwb
      have hl4 := ltOfCell n0
      have n0 := (show wb.cell? ⟨w.heap.size, 0, none⟩ = _ from by rw [hwb]; exact Lib.bytesWorld_old _ _ _ _ hl4).trans n0
      have n1 := (show wb.cell? ⟨w.heap.size, 1, none⟩ = _ from by rw [hwb]; exact Lib.bytesWorld_old _ _ _ _ hl4).trans n1
      clear hwb
      obtain ⟨bb, hbb⟩ : ∃ bb, bb = w4.heap.size := ⟨_, rfl⟩
      rw [← hbb] at hcv hbs
      have HBB := Lib.hid hbb
      have hcell0 : ∀ j (h : j < r.data.toList.length), wb.cell? ⟨bb, j, none⟩ = some (u8v r.data.toList[j]) := fun j h => by
        rw [HW.out, hbb, Lib.bytesWorld_cell w4 5 r j (by rw [← size_toList]; exact h)]
        unfold u8v
        rw [List.getD, List.getElem?_eq_getElem h]; rfl
      have hfz0 : ∀ j, j < r.size → wb.frozen? ⟨bb, j, none⟩ = false := fun j h => by
        have hb := Lib.bytesWorld_at_new w4 5 r
        rw [HW.out, hbb]
        unfold World.frozen?
        rw [hb]
        have hsz : r.size ≤ (Lib.bytesCells w4 5 r).size := by
          have : r.data.size = r.size := rfl
          simp [Lib.bytesCells, this]
        simp
        omega
      clear hbb
      obtain ⟨cp, hcp⟩ : ∃ cp, cp = grownCap w4 r.size 0 5 := ⟨_, rfl⟩
      rw [← hcp] at hcv
      clear hcp
      have w8 : IntKind.i64.wrap (8 * (r.size : Int)) = 8 * (r.size : Int) := IntWalk.i64_in _ (by omega)
      go_wp2_with fail
      obtain ⟨k, hk, hkl⟩ : ∃ k : Nat, wrap64 ((IntKind.u64.wrap pl).tmod (8 * (r.size : Int))) = (k : Int) ∧ k < 8 * r.size := by
        have e1 : IntKind.u64.wrap pl = pl % 18446744073709551616 := rfl
        have e0 : 0 ≤ pl % 18446744073709551616 := Int.emod_nonneg _ (by decide)
        have e2 : 0 ≤ pl % 18446744073709551616 % (8 * (r.size : Int)) := Int.emod_nonneg _ (by omega)
        have e3 : pl % 18446744073709551616 % (8 * (r.size : Int)) < 8 * (r.size : Int) := Int.emod_lt_of_pos _ (by omega)
        refine ⟨(pl % 18446744073709551616 % (8 * (r.size : Int))).toNat, ?_, by omega⟩
        rw [e1, Int.tmod_eq_emod_of_nonneg e0]
        unfold wrap64
        omega
      rw [hk]
      clear hk hcv w8
      go_loopw [11] (fun iv wr => ∃ i : Nat, iv = .int .i64 i ∧ i ≤ 32 ∧ k + i ≤ 8 * r.size ∧ (∀ j (h : j < (Crc.burst r.data.toList k pat i).length), wr.cell? ⟨bb, j, none⟩ = some (u8v (Crc.burst r.data.toList k pat i)[j])) ∧ (∀ j, j < r.size → wr.frozen? ⟨bb, j, none⟩ = false) ∧ Fr (fun x => x = bb) wb wr) (fun iv _ => 32 - (intOf iv).toNat)
      case atStart => exact ⟨0, rfl, by omega, by omega, hcell0, hfz0, Fr.refl _ _⟩
      case round =>
        obtain ⟨i, rfl, hi, hki, hcell, hfz, hf⟩ := hrel
        by_cases hi32 : i < 32
        · by_cases hk8 : k + i < 8 * r.size
          · have HC := Lib.hid hcell
            have HF := Lib.hid hfz
            clear hcell hfz hcell0 hfz0
            have hd0 : (k + i) / 8 < r.size := by omega
            have hjl : (k + i) / 8 < (Crc.burst r.data.toList k pat i).length := by rw [Crc.burst_length, size_toList]; exact hd0
            have hcj : wr.cell? ⟨bb, (k + i) / 8, none⟩ = some (.int .u8 (((Crc.burst r.data.toList k pat i)[(k + i) / 8]).toNat : Int)) := HC.out _ hjl
            have hfj := HF.out _ hd0
            obtain ⟨B, hB⟩ : ∃ B, B = (Crc.burst r.data.toList k pat i)[(k + i) / 8] := ⟨_, rfl⟩
            rw [← hB] at hcj
            have HBY := Lib.hid hB
            clear hB
            have hxf := xor_flip B ((k + i) % 8)
            obtain ⟨C, hC⟩ : ∃ C, C = B ^^^ UInt8.ofBitVec (1#8 <<< ((k + i) % 8)) := ⟨_, rfl⟩
            rw [← hC] at hxf
            have HCB := Lib.hid hC
            clear hC
            cases hbit : pat.getLsbD i
            · have hbt := bit_test pat i
              rw [hbit] at hbt
              have HBT := Lib.hid hbit
              clear hbit
              go_wp2
              go_roundw
              case rel =>
                have e1 : Crc.burst r.data.toList k pat (i + 1) = Crc.burst r.data.toList k pat i := by rw [Crc.burst, if_neg (by rw [HBT.out]; simp)]
                exact ⟨i + 1, by go_num, by omega, by omega, by rw [e1]; exact HC.out, HF.out, hf⟩
              case measure => simp [intOf]; omega
            · have hbt := bit_test pat i
              rw [hbit] at hbt
              have HBT := Lib.hid hbit
              clear hbit
              go_wp2
              go_roundw
              case rel =>
                have e1 : Crc.burst r.data.toList k pat (i + 1) = Crc.flip (Crc.burst r.data.toList k pat i) (k + i) := by rw [Crc.burst, if_pos HBT.out]
                refine ⟨i + 1, by go_num, by omega, by omega, fun j hj => ?_, fun j hj => ?_, hf.setCell ⟨bb, (k + i) / 8, none⟩ (fun _ => rfl) _⟩
                · have hj0 : j < (Crc.burst r.data.toList k pat i).length := by rw [e1, Crc.flip_length] at hj; exact hj
                  by_cases hje : j = (k + i) / 8
                  · subst hje
                    rw [World.cell?_setCell_same _ _ _ hcj]
                    have : (Crc.burst r.data.toList k pat (i + 1))[(k + i) / 8]'hj = C := by
                      rw [HCB.out]
                      have e2 : (Crc.burst r.data.toList k pat (i + 1))[(k + i) / 8]? = some (B ^^^ UInt8.ofBitVec (1#8 <<< ((k + i) % 8))) := by
                        rw [e1]; unfold Crc.flip; rw [List.getElem?_modify_eq, List.getElem?_eq_getElem hj0, HBY.out]; rfl
                      rw [List.getElem?_eq_getElem hj] at e2
                      exact Option.some.inj e2
                    rw [this]
                    rfl
                  · rw [World.cell?_setCell_other _ _ _ _ (fun e => hje (congrArg Addr.off e).symm), HC.out j hj0]
                    have : (Crc.burst r.data.toList k pat (i + 1))[j]'hj = (Crc.burst r.data.toList k pat i)[j] := by
                      have e2 : (Crc.burst r.data.toList k pat (i + 1))[j]? = (Crc.burst r.data.toList k pat i)[j]? := by
                        rw [e1]; unfold Crc.flip; have hje2 : (k + i) / 8 ≠ j := fun e => hje e.symm; simp [hje2]
                      rw [List.getElem?_eq_getElem hj, List.getElem?_eq_getElem hj0] at e2
                      exact Option.some.inj e2
                    rw [this]
                · rw [World.frozen?_setCell]; exact HF.out j hj
              case measure => simp [intOf]; omega
          · have HN := Lib.hid (show k + i ≤ 8 * r.data.toList.length ∧ i ≤ 32 from ⟨by rw [size_toList]; omega, hi⟩)
            have HC := Lib.hid hcell
            clear hcell hfz hcell0 hfz0
            have hcv2 := conv_bytes wr 34 9 5 Tryz.underlying34 Tryz.underlying5 Tryz.underlying9 bb 0 r.size cp (Crc.burst r.data.toList k pat i) (by rw [Crc.burst_length, size_toList]) (fun j hj => by rw [Nat.zero_add]; exact HC.out j hj)
            go_wp2_with fail
            obtain ⟨q, hq, hqe⟩ := str_ex (Crc.burst r.data.toList k pat i)
            rw [hqe]
            have hqs : q.size = r.size := by rw [size_of_list hq, Crc.burst_length, size_toList]
            have HQ := Lib.hid hq
            have HQE := Lib.hid hqe
            have HQS := Lib.hid hqs
            have hq4 : 4 ≤ q.size := by omega
            have hqm : q.size ≤ 2000 := by omega
            clear hcv2 hq hqe hqs
            by_cases hsame : Crc.burst r.data.toList k pat i = r.data.toList
            · have hqr : q.data.toList = r.data.toList := HQ.out.trans hsame
              have hts := str_eq_true hqr
              refine (read_seal wr q g l (hqr.trans HR.out) HM.out).mono ?_
              rintro e wx ⟨hbx, v3, hv3, _, rfl⟩
              obtain ⟨a3, c3, rfl⟩ := hv3.at.shape
              have hbz : Below wx.heap.size wx (wx.alloc (.cells #[.int .i64 g, .slice a3 l.length c3] 32)) := (Below.refl _ _).alloc (Nat.le_refl _) _
              have hby : Below wr.heap.size wr (wx.alloc (.cells #[.int .i64 g, .slice a3 l.length c3] 32)) := hbx.alloc hbx.size _
              have hcv3 := conv_bytes (wx.alloc (.cells #[.int .i64 g, .slice a3 l.length c3] 32)) 34 9 5 Tryz.underlying34 Tryz.underlying5 Tryz.underlying9 bb 0 r.size cp (Crc.burst r.data.toList k pat i) (by rw [Crc.burst_length, size_toList]) (fun j hj => by rw [Nat.zero_add]; have := HC.out j hj; exact (hby.cell (p := ⟨bb, j, none⟩) (ltOfCell this)).trans this)
              rw [HQE.out] at hcv3
              have hB := HBB.out
              have hS := hf.size
              have hbw : Below w.heap.size w4 wb := by rw [HW.out]; exact ⟨rfl, rfl, rfl, by rw [Lib.bytesWorld_size]; omega, fun j hj => Lib.bytesWorld_at_old _ _ _ _ (by omega)⟩
              have BY := Lib.hid ((B4.out.trans hbw).trans ((hf.below (B := w.heap.size) (by omega) (fun x hx e => by omega)).trans (hby.mono (by omega))))
              have n0 := (hby.cell (p := ⟨w.heap.size, 0, none⟩) (by show w.heap.size < _; omega)).trans (hf.cellAt n0 (by omega))
              have n1 := (hby.cell (p := ⟨w.heap.size, 1, none⟩) (by show w.heap.size < _; omega)).trans (hf.cellAt n1 (by omega))
              have x0 : (wx.alloc (.cells #[.int .i64 g, .slice a3 l.length c3] 32)).cell? ⟨wx.heap.size, 0, none⟩ = some (.int .i64 g) := by rw [World.cell?_alloc_at _ _ _ _ rfl]; rfl
              have x1 : (wx.alloc (.cells #[.int .i64 g, .slice a3 l.length c3] 32)).cell? ⟨wx.heap.size, 1, none⟩ = some (.slice a3 l.length c3) := by rw [World.cell?_alloc_at _ _ _ _ rfl]; rfl
              have HVX := Lib.hid (hv3.at.pure hbz)
              have HSY := Lib.hid (HS.out.pure BY.out)
              clear hbx hby hbz hv3 hB
              go_wp2_with fail
              generalize (wx.alloc (.cells #[.int .i64 g, .slice a3 l.length c3] 32)) = wy at *
              generalize wx.heap.size = xb at *
              go_region_held3 (fun w' => w'.cell? ⟨w.heap.size, 0, none⟩ = some (.int .i64 g) ∧ w'.cell? ⟨w.heap.size, 1, none⟩ = some (.slice a l.length c) ∧ w'.cell? ⟨xb, 0, none⟩ = some (.int .i64 g) ∧ w'.cell? ⟨xb, 1, none⟩ = some (.slice a3 l.length c3)) (first | exact ⟨q0, q1, q2, q3⟩ | exact ⟨p0, p1, p2, p3⟩ | exact ⟨n0, n1, x0, x1⟩) (first | (go_at_call 12; refine (given_any wy.drew g (.slice a l.length c) l HSY.out (by omega)).mono ?_; rintro e w6 ⟨v6, rfl, hv6, _, hb6⟩; have HV6 := Lib.hid hv6.at; have HX6 := Lib.hid ((show SegsAt wy.drew (.slice a3 l.length c3) l from HVX.out).pure hb6); have p0 := (hb6.cell (p := ⟨w.heap.size, 0, none⟩) (ltOfCell n0)).trans n0; have p1 := (hb6.cell (p := ⟨w.heap.size, 1, none⟩) (ltOfCell n1)).trans n1; have p2 := (hb6.cell (p := ⟨xb, 0, none⟩) (ltOfCell x0)).trans x0; have p3 := (hb6.cell (p := ⟨xb, 1, none⟩) (ltOfCell x1)).trans x1; have B6 := Lib.hid (BY.out.drew.trans (hb6.mono BY.out.size)); clear hv6 hb6) | (go_at_call 14; refine (same_any w6 g g (.slice a3 l.length c3) v6 l l HX6.out HV6.out (by omega) (by omega)).mono ?_; rintro e w7 ⟨rfl, hb7⟩; rw [show (decide (g = g) && l == l) = true from by simp]; have q0 := (hb7.cell (p := ⟨w.heap.size, 0, none⟩) (ltOfCell p0)).trans p0; have q1 := (hb7.cell (p := ⟨w.heap.size, 1, none⟩) (ltOfCell p1)).trans p1; have q2 := (hb7.cell (p := ⟨xb, 0, none⟩) (ltOfCell p2)).trans p2; have q3 := (hb7.cell (p := ⟨xb, 1, none⟩) (ltOfCell p3)).trans p3; have B7 := Lib.hid (B6.out.trans (hb7.mono B6.out.size)); clear hb7))
              go_wp2
              go_ret
              exact ⟨rfl, B7.out⟩
            · have hns : ¬ Sealed q.data.toList := by
                intro hS
                have h4 : 4 ≤ r.data.toList.length := by rw [size_toList]; omega
                rcases Crc.burst_law r.data.toList k pat i HN.out.2 HN.out.1 h4 (by have := (HR.out ▸ sealed_seal (manBytes g l) : Sealed r.data.toList); exact this.2) with h | h
                · exact hsame h
                · apply h
                  have := hS.2
                  rw [HQ.out, Crc.burst_length] at this
                  exact this
              have hts := str_eq_false (show q.data.toList ≠ r.data.toList from by rw [HQ.out]; exact hsame)
              refine (read_sum q wr hq4 (by unfold maxLen; omega) hns).mono ?_
              rintro e wx ⟨rfl, hbx⟩
              have hby : Below wr.heap.size wr (wx.alloc (.cells #[.int .i64 0, .slice none 0 0] 32)) := hbx.alloc hbx.size _
              have hcv3 := conv_bytes (wx.alloc (.cells #[.int .i64 0, .slice none 0 0] 32)) 34 9 5 Tryz.underlying34 Tryz.underlying5 Tryz.underlying9 bb 0 r.size cp (Crc.burst r.data.toList k pat i) (by rw [Crc.burst_length, size_toList]) (fun j hj => by rw [Nat.zero_add]; have := HC.out j hj; exact (hby.cell (p := ⟨bb, j, none⟩) (ltOfCell this)).trans this)
              rw [HQE.out] at hcv3
              have HF := Lib.hid (((Fr.pure (S := fun _ => False) B4.out)))
              have HY := Lib.hid hby
              clear hbx hby
              unfold noMan
              go_wp2
              go_ret
              refine ⟨rfl, ?_⟩
              have hbw : Below w.heap.size w4 wb := by rw [HW.out]; exact ⟨rfl, rfl, rfl, by rw [Lib.bytesWorld_size]; omega, fun j hj => Lib.bytesWorld_at_old _ _ _ _ (by omega)⟩
              exact (B4.out.trans hbw).trans (have hB := HBB.out; have hS := hf.size; (hf.below (B := w.heap.size) (by omega) (fun x hx e => by omega)).trans (HY.out.mono (by omega)))
        · have HN := Lib.hid (show k + i ≤ 8 * r.data.toList.length ∧ i ≤ 32 from ⟨by rw [size_toList]; omega, hi⟩)
          have HC := Lib.hid hcell
          clear hcell hfz hcell0 hfz0
          have hcv2 := conv_bytes wr 34 9 5 Tryz.underlying34 Tryz.underlying5 Tryz.underlying9 bb 0 r.size cp (Crc.burst r.data.toList k pat i) (by rw [Crc.burst_length, size_toList]) (fun j hj => by rw [Nat.zero_add]; exact HC.out j hj)
          go_wp2_with fail
          obtain ⟨q, hq, hqe⟩ := str_ex (Crc.burst r.data.toList k pat i)
          rw [hqe]
          have hqs : q.size = r.size := by rw [size_of_list hq, Crc.burst_length, size_toList]
          have HQ := Lib.hid hq
          have HQE := Lib.hid hqe
          have HQS := Lib.hid hqs
          have hq4 : 4 ≤ q.size := by omega
          have hqm : q.size ≤ 2000 := by omega
          clear hcv2 hq hqe hqs
          by_cases hsame : Crc.burst r.data.toList k pat i = r.data.toList
          · have hqr : q.data.toList = r.data.toList := HQ.out.trans hsame
            have hts := str_eq_true hqr
            refine (read_seal wr q g l (hqr.trans HR.out) HM.out).mono ?_
            rintro e wx ⟨hbx, v3, hv3, _, rfl⟩
            obtain ⟨a3, c3, rfl⟩ := hv3.at.shape
            have hbz : Below wx.heap.size wx (wx.alloc (.cells #[.int .i64 g, .slice a3 l.length c3] 32)) := (Below.refl _ _).alloc (Nat.le_refl _) _
            have hby : Below wr.heap.size wr (wx.alloc (.cells #[.int .i64 g, .slice a3 l.length c3] 32)) := hbx.alloc hbx.size _
            have hcv3 := conv_bytes (wx.alloc (.cells #[.int .i64 g, .slice a3 l.length c3] 32)) 34 9 5 Tryz.underlying34 Tryz.underlying5 Tryz.underlying9 bb 0 r.size cp (Crc.burst r.data.toList k pat i) (by rw [Crc.burst_length, size_toList]) (fun j hj => by rw [Nat.zero_add]; have := HC.out j hj; exact (hby.cell (p := ⟨bb, j, none⟩) (ltOfCell this)).trans this)
            rw [HQE.out] at hcv3
            have hB := HBB.out
            have hS := hf.size
            have hbw : Below w.heap.size w4 wb := by rw [HW.out]; exact ⟨rfl, rfl, rfl, by rw [Lib.bytesWorld_size]; omega, fun j hj => Lib.bytesWorld_at_old _ _ _ _ (by omega)⟩
            have BY := Lib.hid ((B4.out.trans hbw).trans ((hf.below (B := w.heap.size) (by omega) (fun x hx e => by omega)).trans (hby.mono (by omega))))
            have n0 := (hby.cell (p := ⟨w.heap.size, 0, none⟩) (by show w.heap.size < _; omega)).trans (hf.cellAt n0 (by omega))
            have n1 := (hby.cell (p := ⟨w.heap.size, 1, none⟩) (by show w.heap.size < _; omega)).trans (hf.cellAt n1 (by omega))
            have x0 : (wx.alloc (.cells #[.int .i64 g, .slice a3 l.length c3] 32)).cell? ⟨wx.heap.size, 0, none⟩ = some (.int .i64 g) := by rw [World.cell?_alloc_at _ _ _ _ rfl]; rfl
            have x1 : (wx.alloc (.cells #[.int .i64 g, .slice a3 l.length c3] 32)).cell? ⟨wx.heap.size, 1, none⟩ = some (.slice a3 l.length c3) := by rw [World.cell?_alloc_at _ _ _ _ rfl]; rfl
            have HVX := Lib.hid (hv3.at.pure hbz)
            have HSY := Lib.hid (HS.out.pure BY.out)
            clear hbx hby hbz hv3 hB
            go_wp2_with fail
            generalize (wx.alloc (.cells #[.int .i64 g, .slice a3 l.length c3] 32)) = wy at *
            generalize wx.heap.size = xb at *
            go_region_held3 (fun w' => w'.cell? ⟨w.heap.size, 0, none⟩ = some (.int .i64 g) ∧ w'.cell? ⟨w.heap.size, 1, none⟩ = some (.slice a l.length c) ∧ w'.cell? ⟨xb, 0, none⟩ = some (.int .i64 g) ∧ w'.cell? ⟨xb, 1, none⟩ = some (.slice a3 l.length c3)) (first | exact ⟨q0, q1, q2, q3⟩ | exact ⟨p0, p1, p2, p3⟩ | exact ⟨n0, n1, x0, x1⟩) (first | (go_at_call 12; refine (given_any wy.drew g (.slice a l.length c) l HSY.out (by omega)).mono ?_; rintro e w6 ⟨v6, rfl, hv6, _, hb6⟩; have HV6 := Lib.hid hv6.at; have HX6 := Lib.hid ((show SegsAt wy.drew (.slice a3 l.length c3) l from HVX.out).pure hb6); have p0 := (hb6.cell (p := ⟨w.heap.size, 0, none⟩) (ltOfCell n0)).trans n0; have p1 := (hb6.cell (p := ⟨w.heap.size, 1, none⟩) (ltOfCell n1)).trans n1; have p2 := (hb6.cell (p := ⟨xb, 0, none⟩) (ltOfCell x0)).trans x0; have p3 := (hb6.cell (p := ⟨xb, 1, none⟩) (ltOfCell x1)).trans x1; have B6 := Lib.hid (BY.out.drew.trans (hb6.mono BY.out.size)); clear hv6 hb6) | (go_at_call 14; refine (same_any w6 g g (.slice a3 l.length c3) v6 l l HX6.out HV6.out (by omega) (by omega)).mono ?_; rintro e w7 ⟨rfl, hb7⟩; rw [show (decide (g = g) && l == l) = true from by simp]; have q0 := (hb7.cell (p := ⟨w.heap.size, 0, none⟩) (ltOfCell p0)).trans p0; have q1 := (hb7.cell (p := ⟨w.heap.size, 1, none⟩) (ltOfCell p1)).trans p1; have q2 := (hb7.cell (p := ⟨xb, 0, none⟩) (ltOfCell p2)).trans p2; have q3 := (hb7.cell (p := ⟨xb, 1, none⟩) (ltOfCell p3)).trans p3; have B7 := Lib.hid (B6.out.trans (hb7.mono B6.out.size)); clear hb7))
            go_wp2
            go_ret
            exact ⟨rfl, B7.out⟩
          · have hns : ¬ Sealed q.data.toList := by
              intro hS
              have h4 : 4 ≤ r.data.toList.length := by rw [size_toList]; omega
              rcases Crc.burst_law r.data.toList k pat i HN.out.2 HN.out.1 h4 (by have := (HR.out ▸ sealed_seal (manBytes g l) : Sealed r.data.toList); exact this.2) with h | h
              · exact hsame h
              · apply h
                have := hS.2
                rw [HQ.out, Crc.burst_length] at this
                exact this
            have hts := str_eq_false (show q.data.toList ≠ r.data.toList from by rw [HQ.out]; exact hsame)
            refine (read_sum q wr hq4 (by unfold maxLen; omega) hns).mono ?_
            rintro e wx ⟨rfl, hbx⟩
            have hby : Below wr.heap.size wr (wx.alloc (.cells #[.int .i64 0, .slice none 0 0] 32)) := hbx.alloc hbx.size _
            have hcv3 := conv_bytes (wx.alloc (.cells #[.int .i64 0, .slice none 0 0] 32)) 34 9 5 Tryz.underlying34 Tryz.underlying5 Tryz.underlying9 bb 0 r.size cp (Crc.burst r.data.toList k pat i) (by rw [Crc.burst_length, size_toList]) (fun j hj => by rw [Nat.zero_add]; have := HC.out j hj; exact (hby.cell (p := ⟨bb, j, none⟩) (ltOfCell this)).trans this)
            rw [HQE.out] at hcv3
            have HF := Lib.hid (((Fr.pure (S := fun _ => False) B4.out)))
            have HY := Lib.hid hby
            clear hbx hby
            unfold noMan
            go_wp2
            go_ret
            refine ⟨rfl, ?_⟩
            have hbw : Below w.heap.size w4 wb := by rw [HW.out]; exact ⟨rfl, rfl, rfl, by rw [Lib.bytesWorld_size]; omega, fun j hj => Lib.bytesWorld_at_old _ _ _ _ (by omega)⟩
            exact (B4.out.trans hbw).trans (have hB := HBB.out; have hS := hf.size; (hf.below (B := w.heap.size) (by omega) (fun x hx e => by omega)).trans (HY.out.mono (by omega)))

end Go.Proofs.YtljmekdilhphaaaGreatDoor
