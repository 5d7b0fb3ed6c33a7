/- The walk of the law ManifBack. -/
import Derived.Test.YtljmekdilhphaaaGreatDoorRl
namespace Go.Proofs.YtljmekdilhphaaaGreatDoor
open Go.RowKit Go.Sort

theorem OwnSegs.pure {w w' : World} {v : Value} {l : Segs} (h : OwnSegs w v l) (hb : Below w.heap.size w w') : OwnSegs w' v l := (Fr.pure (S := fun _ => False) hb).ownsRow h (fun _ _ h => h)
theorem may_len {g : Int} {l : Segs} (h : mayB g l = true) : l.length ≤ 64 := (mayB_all h).2.2.2.1

set_option maxRecDepth 100000 in
set_option maxHeartbeats 4000000 in
theorem manifBack_any (w : World) (hp : Pow w) (g : Int) (sv : Value) (l : Segs) (hs : SegsAt w sv l) (hl : l.length ≤ 9223372036854775807) (s : ByteArray) (hss : s.size ≤ 9223372036854775807) :
    Calls Tryz.prog 4 #[.agg #[.int .i64 g, sv], .string s] w fun e w' => e = .returned (.bool true) ∧ Below w.heap.size w w' := by
  obtain ⟨a, c, rfl⟩ := hs.shape
  have hbz : Below w.heap.size w (w.alloc (.cells #[.int .i64 g, .slice a l.length c] 24)) := (Below.refl _ _).alloc (Nat.le_refl _) _
  have HB := Lib.hid hbz
  have HP := Lib.hid (below_pow hbz hp)
  have HS := Lib.hid hs
  clear hs hp hbz
  by_cases h1 : 100 < l.length
  · go_enter Tryz.func4, Tryz.ntmps4
    go_wp2_with fail
    refine (awake_any _ HP.out).mono ?_
    rintro e w1 ⟨rfl, hb1⟩
    have B1 := Lib.hid (HB.out.trans (hb1.mono (by simp)))
    clear hb1
    go_wp2
    go_ret
    exact ⟨rfl, B1.out⟩
  · by_cases h2 : 5000 < s.size
    · go_enter Tryz.func4, Tryz.ntmps4
      go_wp2_with fail
      refine (awake_any _ HP.out).mono ?_
      rintro e w1 ⟨rfl, hb1⟩
      have B1 := Lib.hid (HB.out.trans (hb1.mono (by simp)))
      clear hb1
      go_wp2
      go_ret
      exact ⟨rfl, B1.out⟩
    · go_enter Tryz.func4, Tryz.ntmps4
      go_wp2_with fail
      refine (awake_any _ HP.out).mono ?_
      rintro e w1 ⟨rfl, hb1⟩
      have B1 := Lib.hid (HB.out.trans (hb1.mono (by simp)))
      have n0 : w1.cell? ⟨w.heap.size, 0, none⟩ = some (.int .i64 g) := by rw [hb1.cell (by simp), World.cell?_alloc_at _ _ _ _ rfl]; rfl
      have n1 : w1.cell? ⟨w.heap.size, 1, none⟩ = some (.slice a l.length c) := by rw [hb1.cell (by simp), World.cell?_alloc_at _ _ _ _ rfl]; rfl
      have hl1 : w.heap.size < w1.heap.size := ltOfCell n0
      clear hb1
      go_wp2_with fail
      refine (given_any w1 g (.slice a l.length c) l (HS.out.pure B1.out) (by omega)).mono ?_
      rintro e w2 ⟨v, rfl, hv, hvb, hb2⟩
      have B2 := Lib.hid (B1.out.trans (hb2.mono B1.out.size))
      have n0 := (hb2.cell (p := ⟨w.heap.size, 0, none⟩) hl1).trans n0
      have n1 := (hb2.cell (p := ⟨w.heap.size, 1, none⟩) hl1).trans n1
      have hl2 : w.heap.size < w2.heap.size := ltOfCell n0
      obtain ⟨a1, c1, rfl⟩ := hv.at.shape
      have HV2 := Lib.hid hv.at
      clear hb2 hv
      go_wp2_with fail
      obtain ⟨xb, hxb⟩ : ∃ xb, xb = w2.heap.size := ⟨_, rfl⟩
      have hbz : Below w2.heap.size w2 (w2.alloc (.cells #[.int .i64 g, .slice a1 l.length c1] 32)) := (Below.refl _ _).alloc (Nat.le_refl _) _
      have B3 := Lib.hid (B2.out.trans (hbz.mono B2.out.size))
      have HV3 := Lib.hid (HV2.out.pure hbz)
      have x0 : (w2.alloc (.cells #[.int .i64 g, .slice a1 l.length c1] 32)).cell? ⟨xb, 0, none⟩ = some (.int .i64 g) := by rw [World.cell?_alloc_at _ _ _ _ hxb]; rfl
      have x1 : (w2.alloc (.cells #[.int .i64 g, .slice a1 l.length c1] 32)).cell? ⟨xb, 1, none⟩ = some (.slice a1 l.length c1) := by rw [World.cell?_alloc_at _ _ _ _ hxb]; rfl
      have n0 := (hbz.cell (p := ⟨w.heap.size, 0, none⟩) hl2).trans n0
      have n1 := (hbz.cell (p := ⟨w.heap.size, 1, none⟩) hl2).trans n1
      rw [← hxb]
      clear hbz hxb
      generalize (w2.alloc (.cells #[.int .i64 g, .slice a1 l.length c1] 32)) = w3 at *
      have hl3 : w.heap.size < w3.heap.size := ltOfCell n0
      have hx3 : xb < w3.heap.size := ltOfCell x0
      cases hm : mayB g l
      · have HM := Lib.hid hm
        clear hm
        refine (make_bad w3 g (.slice a1 l.length c1) l HV3.out (by omega) HM.out).mono ?_
        rintro e w4 ⟨rfl, hb4⟩
        have B4 := Lib.hid (B3.out.trans (hb4.mono B3.out.size))
        have x0 := (hb4.cell (p := ⟨xb, 0, none⟩) hx3).trans x0
        have x1 := (hb4.cell (p := ⟨xb, 1, none⟩) hx3).trans x1
        have HV4 := Lib.hid (HV3.out.pure hb4)
        clear hb4
        go_wp2_with fail
        refine (may_any w4 g (.slice a1 l.length c1) l HV4.out (by omega)).mono ?_
        rintro e w5 ⟨rfl, hb5⟩
        have B5 := Lib.hid (B4.out.trans (hb5.mono B4.out.size))
        rw [HM.out]
        clear hb5
        go_wp2_with fail
        refine (read_law s w5 (by omega)).mono ?_
        rintro e wt ⟨hbt, (⟨cd, hcd, rfl⟩ | ⟨g2, l2, v2, hm2, hs2, hv2, rfl⟩)⟩
        · have BT := Lib.hid (B5.out.trans (hbt.mono B5.out.size))
          have hcf : (cd == 0) = false := by simpa using hcd
          clear hbt
          unfold noMan
          go_wp2
          go_ret
          exact ⟨rfl, BT.out.alloc BT.out.size _⟩
        · have BT := Lib.hid (B5.out.trans (hbt.mono B5.out.size))
          obtain ⟨a2, c2, rfl⟩ := hv2.at.shape
          have hbz2 : Below wt.heap.size wt (wt.alloc (.cells #[.int .i64 g2, .slice a2 l2.length c2] 32)) := (Below.refl _ _).alloc (Nat.le_refl _) _
          have HV2 := Lib.hid (hv2.at.pure hbz2)
          have HM2 := Lib.hid hm2
          have HS2 := Lib.hid hs2
          have BT2 := Lib.hid (BT.out.trans (hbz2.mono BT.out.size))
          clear hbt hv2 hm2 hs2 hbz2
          go_wp2_with fail
          refine (make_ok _ g2 (.slice a2 l2.length c2) l2 HV2.out HM2.out).mono ?_
          rintro e wu ⟨r2, hr2, rfl, hbu⟩
          have heq := str_eq_true (hr2.trans HS2.out.symm)
          have BU := Lib.hid (BT2.out.trans (hbu.mono BT2.out.size))
          clear hbu hr2
          go_wp2
          go_ret
          exact ⟨rfl, BU.out⟩
      · have HM := Lib.hid hm
        have hl64 := may_len hm
        clear hm
        refine (make_ok w3 g (.slice a1 l.length c1) l HV3.out HM.out).mono ?_
        rintro e w4 ⟨r, hr, rfl, hb4⟩
        have HR := Lib.hid hr
        have hrs : r.size = 18 + 16 * l.length := by rw [size_of_list hr, Crc.seal_length, manBytes_length]; omega
        have B4 := Lib.hid (B3.out.trans (hb4.mono B3.out.size))
        have x0 := (hb4.cell (p := ⟨xb, 0, none⟩) hx3).trans x0
        have x1 := (hb4.cell (p := ⟨xb, 1, none⟩) hx3).trans x1
        have n1 := (hb4.cell (p := ⟨w.heap.size, 1, none⟩) hl3).trans n1
        have HV4 := Lib.hid (HV3.out.pure hb4)
        clear hb4 hr n0
        go_wp2_with fail
        refine (may_any w4 g (.slice a1 l.length c1) l HV4.out (by omega)).mono ?_
        rintro e w5 ⟨rfl, hb5⟩
        have B5 := Lib.hid (B4.out.trans (hb5.mono B4.out.size))
        have x0 := (hb5.cell (p := ⟨xb, 0, none⟩) (ltOfCell x0)).trans x0
        have x1 := (hb5.cell (p := ⟨xb, 1, none⟩) (ltOfCell x1)).trans x1
        have n1 := (hb5.cell (p := ⟨w.heap.size, 1, none⟩) (ltOfCell n1)).trans n1
        have HV5 := Lib.hid (HV4.out.pure hb5)
        rw [HM.out]
        clear hb5
        go_wp2_with fail
        refine (read_seal w5 r g l HR.out HM.out).mono ?_
        rintro e w6 ⟨hb6, v6, hv6, _, rfl⟩
        obtain ⟨a6, c6, rfl⟩ := hv6.at.shape
        have B6 := Lib.hid (B5.out.trans (hb6.mono B5.out.size))
        have hbz : Below w6.heap.size w6 (w6.alloc (.cells #[.int .i64 g, .slice a6 l.length c6] 32)) := (Below.refl _ _).alloc (Nat.le_refl _) _
        have x0 := (hb6.cell (p := ⟨xb, 0, none⟩) (ltOfCell x0)).trans x0
        have x1 := (hb6.cell (p := ⟨xb, 1, none⟩) (ltOfCell x1)).trans x1
        have n1 := (hb6.cell (p := ⟨w.heap.size, 1, none⟩) (ltOfCell n1)).trans n1
        have x0 := (hbz.cell (p := ⟨xb, 0, none⟩) (ltOfCell x0)).trans x0
        have x1 := (hbz.cell (p := ⟨xb, 1, none⟩) (ltOfCell x1)).trans x1
        have n1 := (hbz.cell (p := ⟨w.heap.size, 1, none⟩) (ltOfCell n1)).trans n1
        have HV7 := Lib.hid ((HV5.out.pure hb6).pure hbz)
        have HW7 := Lib.hid (hv6.at.pure hbz)
        have B7 := Lib.hid (B6.out.trans (hbz.mono B6.out.size))
        clear hb6 hv6 hbz
        go_wp2_with fail
        refine (same_any _ g g (.slice a6 l.length c6) (.slice a1 l.length c1) l l HW7.out HV7.out (by omega) (by omega)).mono ?_
        rintro e w8 ⟨rfl, hb8⟩
        rw [show (decide (g = g) && l == l) = true from by simp]
        have B8 := Lib.hid (B7.out.trans (hb8.mono B7.out.size))
        have n1 := (hb8.cell (p := ⟨w.heap.size, 1, none⟩) (ltOfCell n1)).trans n1
        clear hb8
        go_wp2_with fail
        refine (size_any w8 (l.length : Int) (by omega) (by omega)).mono ?_
        rintro e w9 ⟨rfl, rfl⟩
        rw [show sizeB (l.length : Int) = 18 + 16 * (l.length : Int) from by unfold sizeB; rw [if_neg (by have := (mayB_all HM.out).2.2.1; omega)]]
        have hrz : ((r.size : Int) != 18 + 16 * (l.length : Int)) = false := by simp; omega
        go_wp2_with fail
        refine (read_law s w8 (by omega)).mono ?_
        rintro e wt ⟨hbt, (⟨cd, hcd, rfl⟩ | ⟨g2, l2, v2, hm2, hs2, hv2, rfl⟩)⟩
        · have BT := Lib.hid (B8.out.trans (hbt.mono B8.out.size))
          have hcf : (cd == 0) = false := by simpa using hcd
          clear hbt
          unfold noMan
          go_wp2
          go_ret
          exact ⟨rfl, BT.out.alloc BT.out.size _⟩
        · have BT := Lib.hid (B8.out.trans (hbt.mono B8.out.size))
          obtain ⟨a2, c2, rfl⟩ := hv2.at.shape
          have hbz2 : Below wt.heap.size wt (wt.alloc (.cells #[.int .i64 g2, .slice a2 l2.length c2] 32)) := (Below.refl _ _).alloc (Nat.le_refl _) _
          have HV2 := Lib.hid (hv2.at.pure hbz2)
          have HM2 := Lib.hid hm2
          have HS2 := Lib.hid hs2
          have BT2 := Lib.hid (BT.out.trans (hbz2.mono BT.out.size))
          clear hbt hv2 hm2 hs2 hbz2
          go_wp2_with fail
          refine (make_ok _ g2 (.slice a2 l2.length c2) l2 HV2.out HM2.out).mono ?_
          rintro e wu ⟨r2, hr2, rfl, hbu⟩
          have heq := str_eq_true (hr2.trans HS2.out.symm)
          have BU := Lib.hid (BT2.out.trans (hbu.mono BT2.out.size))
          clear hbu hr2
          go_wp2
          go_ret
          exact ⟨rfl, BU.out⟩

end Go.Proofs.YtljmekdilhphaaaGreatDoor
