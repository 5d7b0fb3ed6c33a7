/- The walk of the law ManifFound. -/
import Derived.Test.YtljmekdilhphaaaGreatDoorFdL
import Derived.Deep.DeepCutAuto
namespace Go.Proofs.YtljmekdilhphaaaGreatDoor
open Go.RowKit Go.Sort

set_option maxRecDepth 100000 in
set_option maxHeartbeats 8000000 in
theorem manifFound_any (w : World) (hp : Pow w) (hmx : Mxl w) (g : Int) (mv : Value) (l : Segs) (hs : SegsAt w mv l) (hl : l.length ≤ 9223372036854775807) (x y q : Int) :
    Calls Tryz.prog 9 #[.agg #[.int .i64 g, mv], .agg #[.int .i64 x, .int .i64 y], .int .i64 q] w fun e w' => e = .returned (.bool true) ∧ Below w.heap.size w w' := by
  obtain ⟨a, c, rfl⟩ := hs.shape
  have hbz := box2_below w (.cells #[.int .i64 g, .slice a l.length c] 24) (.cells #[.int .i64 x, .int .i64 y] 84)
  have HB := Lib.hid hbz
  have HP := Lib.hid (below_pow hbz hp)
  have HX := Lib.hid (below_mxl hbz hmx)
  have HS := Lib.hid hs
  clear hs hp hmx hbz
  by_cases h1 : 100 < l.length
  · go_enter Tryz.func9, Tryz.ntmps9
    go_wp2_with fail
    refine (awake_any _ HP.out).mono ?_
    rintro e w1 ⟨rfl, hb1⟩
    have B1 := Lib.hid (HB.out.trans (hb1.mono HB.out.size))
    clear hb1
    go_wp2
    go_ret
    exact ⟨rfl, B1.out⟩
  · go_enter Tryz.func9, Tryz.ntmps9
    go_wp2_with fail
    refine (awake_any _ HP.out).mono ?_
    rintro e w1 ⟨rfl, hb1⟩
    have B1 := Lib.hid (HB.out.trans (hb1.mono HB.out.size))
    have P1 := Lib.hid (below_pow hb1 HP.out)
    have X1 := Lib.hid (below_mxl hb1 HX.out)
    have n0 : w1.cell? ⟨w.heap.size, 0, none⟩ = some (.int .i64 g) := by rw [hb1.cell (by simp; omega), World.cell?_alloc_past _ _ _ (by simp), World.cell?_alloc_at _ _ _ _ rfl]; rfl
    have n1 : w1.cell? ⟨w.heap.size, 1, none⟩ = some (.slice a l.length c) := by rw [hb1.cell (by simp; omega), World.cell?_alloc_past _ _ _ (by simp), World.cell?_alloc_at _ _ _ _ rfl]; rfl
    have e0 : w1.cell? ⟨w.heap.size + 1, 0, none⟩ = some (.int .i64 x) := by rw [hb1.cell (by simp), World.cell?_alloc_at _ _ _ _ (by simp)]; rfl
    have e1 : w1.cell? ⟨w.heap.size + 1, 1, none⟩ = some (.int .i64 y) := by rw [hb1.cell (by simp), World.cell?_alloc_at _ _ _ _ (by simp)]; rfl
    have HS1 := Lib.hid (HS.out.pure B1.out)
    clear hb1
    go_wp2_with fail
    refine (given_any w1 g (.slice a l.length c) l HS1.out (by omega)).mono ?_
    rintro e w2 ⟨gv, rfl, hgv, hgb, hb2⟩
    obtain ⟨a1, c1, rfl⟩ := hgv.at.shape
    go_wp2_with fail
    obtain ⟨xb, hxb⟩ : ∃ xb, xb = w2.heap.size := ⟨_, rfl⟩
    have hbz : Below w2.heap.size w2 (w2.alloc (.cells #[.int .i64 g, .slice a1 l.length c1] 32)) := (Below.refl _ _).alloc (Nat.le_refl _) _
    have hb13 : Below w1.heap.size w1 (w2.alloc (.cells #[.int .i64 g, .slice a1 l.length c1] 32)) := hb2.trans (hbz.mono hb2.size)
    have B3 := Lib.hid (B1.out.trans (hb13.mono B1.out.size))
    have P3 := Lib.hid (below_pow hb13 P1.out)
    have X3 := Lib.hid (below_mxl hb13 X1.out)
    have HG3 := Lib.hid (hgv.at.pure hbz)
    have x0 : (w2.alloc (.cells #[.int .i64 g, .slice a1 l.length c1] 32)).cell? ⟨xb, 0, none⟩ = some (.int .i64 g) := by rw [World.cell?_alloc_at _ _ _ _ hxb]; rfl
    have x1 : (w2.alloc (.cells #[.int .i64 g, .slice a1 l.length c1] 32)).cell? ⟨xb, 1, none⟩ = some (.slice a1 l.length c1) := by rw [World.cell?_alloc_at _ _ _ _ hxb]; rfl
    have e0 := (hb13.cell (p := ⟨w.heap.size + 1, 0, none⟩) (ltOfCell e0)).trans e0
    have e1 := (hb13.cell (p := ⟨w.heap.size + 1, 1, none⟩) (ltOfCell e1)).trans e1
    rw [← hxb]
    clear hbz hxb hb2 hb13 hgv hgb n0 n1
    generalize (w2.alloc (.cells #[.int .i64 g, .slice a1 l.length c1] 32)) = w3 at *
    refine (may_any w3 g (.slice a1 l.length c1) l HG3.out (by omega)).mono ?_
    rintro e w4 ⟨rfl, hb4⟩
    have B4 := Lib.hid (B3.out.trans (hb4.mono B3.out.size))
    have P4 := Lib.hid (below_pow hb4 P3.out)
    have X4 := Lib.hid (below_mxl hb4 X3.out)
    have HG4 := Lib.hid (HG3.out.pure hb4)
    have x0 := (hb4.cell (p := ⟨xb, 0, none⟩) (ltOfCell x0)).trans x0
    have x1 := (hb4.cell (p := ⟨xb, 1, none⟩) (ltOfCell x1)).trans x1
    have e0 := (hb4.cell (p := ⟨w.heap.size + 1, 0, none⟩) (ltOfCell e0)).trans e0
    have e1 := (hb4.cell (p := ⟨w.heap.size + 1, 1, none⟩) (ltOfCell e1)).trans e1
    clear hb4
    cases hmy : mayB g l
    · have HMY := Lib.hid hmy
      clear hmy
      go_wp2_with fail
      refine (names_bad w4 g (.slice a1 l.length c1) l HG4.out (by omega) HMY.out).mono ?_
      rintro e w5 ⟨rfl, hb5⟩
      have B5 := Lib.hid (B4.out.trans (hb5.mono B4.out.size))
      clear hb5
      go_wp2
      go_ret
      exact ⟨rfl, B5.out⟩
    · have HMY := Lib.hid hmy
      obtain ⟨hg0, hg1, hl0, hl1, hall⟩ := mayB_all hmy
      have HALL := Lib.hid hall
      clear hmy hall
      go_wp2_with fail
      refine (find_any w4 g (.slice a1 l.length c1) l HG4.out (by omega) q).mono ?_
      rintro e w5 ⟨rfl, hb5⟩
      have B5 := Lib.hid (B4.out.trans (hb5.mono B4.out.size))
      have P5 := Lib.hid (below_pow hb5 P4.out)
      have X5 := Lib.hid (below_mxl hb5 X4.out)
      have HG5 := Lib.hid (HG4.out.pure hb5)
      have x0 := (hb5.cell (p := ⟨xb, 0, none⟩) (ltOfCell x0)).trans x0
      have x1 := (hb5.cell (p := ⟨xb, 1, none⟩) (ltOfCell x1)).trans x1
      have e0 := (hb5.cell (p := ⟨w.heap.size + 1, 0, none⟩) (ltOfCell e0)).trans e0
      have e1 := (hb5.cell (p := ⟨w.heap.size + 1, 1, none⟩) (ltOfCell e1)).trans e1
      clear hb5
      obtain ⟨fk, hfk⟩ : ∃ fk, fk = findB l q := ⟨_, rfl⟩
      rw [← hfk]
      have HFK := Lib.hid hfk
      have hup := up_le q l
      have HFU := Lib.hid (hfk.trans (find_up HMY.out))
      clear hfk
      go_upto_region 7 with fail
      go_cut [80] (fun s wx => s = .bool false ∧ w5 = wx)
      case first =>
        have hfu := HFU.out
        obtain ⟨b, o, rfl, _, hc0, _⟩ := HG5.out.at 0 (by omega)
        cases hn : upTo q l with
        | zero =>
          have hpos : 0 < l.length := by omega
          have hat0 : q < (l[0]'hpos).2 := by have hat := up_at (q := q) (l := l) (by omega); simpa only [hn] using hat
          obtain rfl : fk = -1 := by omega
          have hc0 : w5.cell? ⟨b, o + 1, none⟩ = some (.int .i64 l[0].2) := by simpa using hc0
          clear hn hfu hup
          go_wp2_with fail
          go_meet
          exact ⟨by congr 1; simp; omega, rfl⟩
        | succ j =>
          obtain rfl : fk = (j : Int) := by omega
          have hjl : j < l.length := by omega
          have hle := up_lt (q := q) (l := l) (i := j) (by omega) hjl
          obtain ⟨b', o', e', _, hc1, _⟩ := HG5.out.at j hjl
          cases e'
          by_cases hj1 : j + 1 < l.length
          · have hat : q < (l[j + 1]'hj1).2 := by have hat := up_at (q := q) (l := l) (by omega); simpa only [hn] using hat
            obtain ⟨b', o', e', _, hc2, _⟩ := HG5.out.at (j + 1) hj1
            cases e'
            clear hn hfu hup hc0
            go_wp2_with fail
            go_meet
            exact ⟨by congr 1; simp; omega, rfl⟩
          · have hje : j + 1 = l.length := by omega
            clear hn hfu hup hc0
            go_wp2_with fail
            go_meet
            exact ⟨by congr 1; simp; omega, rfl⟩
      case rest =>
        obtain ⟨rfl, rfl⟩ := hcut
        go_wp2_with fail
        refine (names_ok w5 P5.out g (.slice a1 l.length c1) l HG5.out HMY.out).mono ?_
        rintro e w6 ⟨nv, rfl, hb6, hown6⟩
        obtain ⟨na, nc, hnv, hnl, hrow⟩ := row_names hown6
        clear hnl
        obtain rfl : nv = .slice na l.length nc := hnv
        have B6 := Lib.hid (B5.out.trans (hb6.mono B5.out.size))
        have P6 := Lib.hid (below_pow hb6 P5.out)
        have X6 := Lib.hid (below_mxl hb6 X5.out)
        have HG6 := Lib.hid (HG5.out.pure hb6)
        have HR6 := Lib.hid hrow
        have x0 := (hb6.cell (p := ⟨xb, 0, none⟩) (ltOfCell x0)).trans x0
        have x1 := (hb6.cell (p := ⟨xb, 1, none⟩) (ltOfCell x1)).trans x1
        have e0 := (hb6.cell (p := ⟨w.heap.size + 1, 0, none⟩) (ltOfCell e0)).trans e0
        have e1 := (hb6.cell (p := ⟨w.heap.size + 1, 1, none⟩) (ltOfCell e1)).trans e1
        clear hb6 hown6 hrow hup
        go_upto_region 10 with fail
        go_cut [88] (fun s wx => s = .bool false ∧ w6 = wx)
        case first =>
          go_wp2_with fail
          go_meet
          exact ⟨rfl, rfl⟩
        case rest =>
          obtain ⟨rfl, rfl⟩ := hcut
          go_upto_if 88 with fail
          go_cut [] (fun wx => w6 = wx)
          case first =>
            go_wp2_with fail
            go_meet
            exact rfl
          case rest =>
            subst hcut
            rw [HFK.out]
            apply_assumption
            exact fd_loop w w6 B6.out P6.out X6.out g l a1 c1 HG6.out HMY.out xb (w.heap.size + 1) x y q x0 x1 e0 e1 na nc (fun i hi => by obtain ⟨g', h1, _, h2⟩ := HR6.out i hi; exact ⟨g', h1, Nat.le_refl _, h2⟩)
end Go.Proofs.YtljmekdilhphaaaGreatDoor
