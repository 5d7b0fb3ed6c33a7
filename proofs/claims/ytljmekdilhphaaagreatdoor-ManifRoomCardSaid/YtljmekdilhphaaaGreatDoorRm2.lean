/- The walk of the law ManifRoom. -/
import Derived.Test.YtljmekdilhphaaaGreatDoorRm
namespace Go.Proofs.YtljmekdilhphaaaGreatDoor
open Go.RowKit Go.Maps Go.Sort

set_option maxRecDepth 100000 in
set_option maxHeartbeats 4000000 in
theorem manifRoom_any (w : World) (hp : Pow w) (cp : Int) (sv : Value) (l : Fs) (hl : FilesAt w sv l) (hlen : l.length ≤ 4398046511104) (hsz : ∀ f ∈ l, f.name.length ≤ 140737488355328 ∧ f.firm.length ≤ 140737488355328 ∧ f.pend.length ≤ 140737488355328) (hcp : cp ≤ 9223372036854775807)
    (g : Int) (mv : Value) (m : Segs) (hm : SegsAt w mv m) (hml : m.length ≤ 9223372036854775807) :
    Calls Tryz.prog 8 #[.int .i64 cp, sv, .agg #[.int .i64 g, mv]] w fun e w' => e = .returned (.bool true) ∧ Below w.heap.size w w' := by
  obtain ⟨am, cm, rfl⟩ := hm.shape
  have hbz : Below w.heap.size w (w.alloc (.cells #[.int .i64 g, .slice am m.length cm] 24)) := (Below.refl _ _).alloc (Nat.le_refl _) _
  have HB := Lib.hid hbz
  have HP := Lib.hid (below_pow hbz hp)
  have HL := Lib.hid (hl.pure hbz)
  have HL0 := Lib.hid hl
  have HM := Lib.hid hm
  clear hl hm hbz hp
  go_enter Tryz.func8, Tryz.ntmps8
  go_wp2_with fail
  refine (many_any _ sv l HL.out hlen).mono ?_
  rintro e w1 ⟨⟨bo, rfl⟩, hb1⟩
  have B1 := Lib.hid (HB.out.trans (hb1.mono HB.out.size))
  have P1 := Lib.hid (below_pow hb1 HP.out)
  have n0 : w1.cell? ⟨w.heap.size, 0, none⟩ = some (.int .i64 g) := by rw [hb1.cell (by simp), World.cell?_alloc_at _ _ _ _ rfl]; rfl
  have n1 : w1.cell? ⟨w.heap.size, 1, none⟩ = some (.slice am m.length cm) := by rw [hb1.cell (by simp), World.cell?_alloc_at _ _ _ _ rfl]; rfl
  have hl1 : w.heap.size < w1.heap.size := ltOfCell n0
  clear hb1
  cases bo
  · by_cases h100 : 100 < m.length
    · go_wp2_with fail
      refine (awake_any _ P1.out).mono ?_
      rintro e w2 ⟨rfl, hb2⟩
      have B2 := Lib.hid (B1.out.trans (hb2.mono B1.out.size))
      clear hb2
      go_wp2
      go_ret
      exact ⟨rfl, B2.out⟩
    · go_wp2_with fail
      refine (awake_any _ P1.out).mono ?_
      rintro e w2 ⟨rfl, hb2⟩
      have B2 := Lib.hid (B1.out.trans (hb2.mono B1.out.size))
      have n0 := (hb2.cell (p := ⟨w.heap.size, 0, none⟩) hl1).trans n0
      have n1 := (hb2.cell (p := ⟨w.heap.size, 1, none⟩) hl1).trans n1
      have hl2 : w.heap.size < w2.heap.size := ltOfCell n0
      have HL2 := Lib.hid (HL0.out.pure B2.out)
      clear hb2
      go_wp2_with fail
      refine (dk_load w2 cp sv l HL2.out hlen hsz hcp).mono ?_
      rintro e w3 ⟨hb3, hload⟩
      have B3 := Lib.hid (B2.out.trans (hb3.mono B2.out.size))
      have n0 := (hb3.cell (p := ⟨w.heap.size, 0, none⟩) hl2).trans n0
      have n1 := (hb3.cell (p := ⟨w.heap.size, 1, none⟩) hl2).trans n1
      have hl3 : w.heap.size < w3.heap.size := ltOfCell n0
      have hs23 := hb3.size
      have HM3 := Lib.hid (HM.out.pure B3.out)
      clear hb3
      rcases load_cases cp l with ⟨c, hcf, hc0, hld⟩ | hld
      · rw [hld] at hload
        simp only at hload
        subst hload
        clear hld
        go_wp2_with fail
        refine (given_any w3 g (.slice am m.length cm) m HM3.out (by omega)).mono ?_
        rintro e w4 ⟨gv, rfl, hgv, hgb, hb4⟩
        have B4 := Lib.hid ((B3.out.trans (hb4.mono B3.out.size)).alloc (by have := B3.out.size; have := hb4.size; omega) (.cells #[.int .i64 g, gv] 32))
        obtain ⟨a1, c1, rfl⟩ := hgv.at.shape
        clear hgv hgb hb4
        go_wp2
        go_ret
        exact ⟨rfl, B4.out⟩
      · rw [hld] at hload
        obtain ⟨p, b, hpg, hbg, rfl, hd3⟩ := hload
        have HD3 := Lib.hid hd3
        have hp3 := hd3.lt
        have hbl3 := hd3.own.lt
        clear hld hd3
        go_wp2_with fail
        refine (given_any w3 g (.slice am m.length cm) m HM3.out (by omega)).mono ?_
        rintro e w4 ⟨gv, rfl, hgv, hgb, hb4⟩
        obtain ⟨a1, c1, rfl⟩ := hgv.at.shape
        go_wp2_with fail
        obtain ⟨xb, hxb⟩ : ∃ xb, xb = w4.heap.size := ⟨_, rfl⟩
        have hbz : Below w4.heap.size w4 (w4.alloc (.cells #[.int .i64 g, .slice a1 m.length c1] 32)) := (Below.refl _ _).alloc (Nat.le_refl _) _
        have hb34 : Below w3.heap.size w3 (w4.alloc (.cells #[.int .i64 g, .slice a1 m.length c1] 32)) := hb4.trans (hbz.mono hb4.size)
        have B5 := Lib.hid (B3.out.trans (hb34.mono B3.out.size))
        have HG5 := Lib.hid (hgv.at.pure hbz)
        have HD5 := Lib.hid (HD3.out.pure hb34)
        have x0 : (w4.alloc (.cells #[.int .i64 g, .slice a1 m.length c1] 32)).cell? ⟨xb, 0, none⟩ = some (.int .i64 g) := by rw [World.cell?_alloc_at _ _ _ _ hxb]; rfl
        have x1 : (w4.alloc (.cells #[.int .i64 g, .slice a1 m.length c1] 32)).cell? ⟨xb, 1, none⟩ = some (.slice a1 m.length c1) := by rw [World.cell?_alloc_at _ _ _ _ hxb]; rfl
        have n0 := (hb34.cell (p := ⟨w.heap.size, 0, none⟩) hl3).trans n0
        have n1 := (hb34.cell (p := ⟨w.heap.size, 1, none⟩) hl3).trans n1
        have hs34 := hb4.size
        have hs35 := hb34.size
        have hxp : xb ≠ p ∧ xb ≠ b := by omega
        have HGB := Lib.hid hgb
        rw [← hxb]
        clear hbz hxb hb4 hb34 hgv hgb
        generalize (w4.alloc (.cells #[.int .i64 g, .slice a1 m.length c1] 32)) = w5 at *
        refine (may_any w5 g (.slice a1 m.length c1) m HG5.out (by omega)).mono ?_
        rintro e w6 ⟨rfl, hb6⟩
        have B6 := Lib.hid (B5.out.trans (hb6.mono B5.out.size))
        have HG6 := Lib.hid (HG5.out.pure hb6)
        have HD6 := Lib.hid (HD5.out.pure hb6)
        have x0 := (hb6.cell (p := ⟨xb, 0, none⟩) (ltOfCell x0)).trans x0
        have x1 := (hb6.cell (p := ⟨xb, 1, none⟩) (ltOfCell x1)).trans x1
        have n0 := (hb6.cell (p := ⟨w.heap.size, 0, none⟩) (ltOfCell n0)).trans n0
        have n1 := (hb6.cell (p := ⟨w.heap.size, 1, none⟩) (ltOfCell n1)).trans n1
        have hs56 := hb6.size
        clear hb6
        cases hmy : mayB g m
        · have HMY := Lib.hid hmy
          clear hmy
          go_wp2_with fail
          refine (swap_bad w6 p g (.slice a1 m.length c1) m HG6.out (by omega) HMY.out).mono ?_
          rintro e w7 ⟨rfl, hb7⟩
          have B7 := Lib.hid (B6.out.trans (hb7.mono B6.out.size))
          clear hb7
          go_wp2
          go_ret
          exact ⟨rfl, B7.out⟩
        · have HMY := Lib.hid hmy
          clear hmy
          go_wp2_with fail
          have hxl := ltOfCell x0
          have hp6 := HD6.out.lt
          have hb6 := HD6.out.own.lt
          refine (dk_copy w6 p b _ HD6.out).mono ?_
          rintro e w7 ⟨hb7, q, c, hqg, hcg, rfl, hdc⟩
          have B7 := Lib.hid (B6.out.trans (hb7.mono B6.out.size))
          have HG7 := Lib.hid (HG6.out.pure hb7)
          have HD7 := Lib.hid (HD6.out.pure hb7)
          have HC7 := Lib.hid hdc
          have x0 := (hb7.cell (p := ⟨xb, 0, none⟩) (ltOfCell x0)).trans x0
          have x1 := (hb7.cell (p := ⟨xb, 1, none⟩) (ltOfCell x1)).trans x1
          have n1 := (hb7.cell (p := ⟨w.heap.size, 1, none⟩) (ltOfCell n1)).trans n1
          have hs67 := hb7.size
          clear hb7 hdc n0
          obtain ⟨s0, hs0⟩ : ∃ s0 : DkSt, s0 = ⟨l, cp, -1, false⟩ := ⟨_, rfl⟩
          rw [← hs0] at HD7 HC7
          have HS0 := Lib.hid (show s0.dark = false ∧ s0.left = -1 from by rw [hs0]; exact ⟨rfl, rfl⟩)
          clear hs0
          obtain ⟨k1, k2⟩ := delete_fresh s0 HS0.out.1 HS0.out.2
          have HK := Lib.hid k1
          clear k1 k2
          go_wp2_with fail
          refine (show Calls Tryz.prog 38 #[.pointer (some ⟨q, 0, none⟩), .string ⟨#[77, 65, 78, 73, 70, 69, 83, 84, 46, 110, 101, 119]⟩] w7 fun e w' => OpPost q c (dkDelete s0 freshN) w7 e w' from dk_delete w7 q c s0 HC7.out ⟨#[77, 65, 78, 73, 70, 69, 83, 84, 46, 110, 101, 119]⟩ (by decide)).mono ?_
          rintro e w8 ⟨rfl, hd8, hf8⟩
          rw [HK.out] at hd8
          have HC8 := Lib.hid hd8
          have B8 := Lib.hid (B7.out.trans (hf8.below (B := w.heap.size) B7.out.size (fun k hk => by omega)))
          have HG8 := Lib.hid (HG7.out.kept hf8 (fun j e => by have := seg_lt HG6.out (by have := (mayB_all HMY.out).2.2.1; omega) e; omega))
          have HD8 := Lib.hid (HD7.out.kept hf8 (by omega) (by omega))
          have x0 := hf8.cellAt x0 (by omega)
          have x1 := hf8.cellAt x1 (by omega)
          have n1 := hf8.cellAt n1 (by omega)
          have hs78 := hf8.size
          clear hd8 hf8
          go_wp2_with fail
          refine (dk_room w8 q c (noFresh s0) HC8.out).mono ?_
          rintro e w9 ⟨rfl, hb9⟩
          have hroom : dkRoom (noFresh s0) = .tuple #[.int .i64 ((noFresh s0).cap - (used (noFresh s0).fs : Int)), .int .i64 (64 - ((noFresh s0).fs.length : Int)), .int .i64 0] := by unfold dkRoom; rw [show (noFresh s0).dark = false from HS0.out.1]; rfl
          rw [hroom]
          clear hroom
          have B9 := Lib.hid (B8.out.trans (hb9.mono B8.out.size))
          have HG9 := Lib.hid (HG8.out.pure hb9)
          have HD9 := Lib.hid (HD8.out.pure hb9)
          have HC9 := Lib.hid (HC8.out.pure hb9)
          have x0 := (hb9.cell (p := ⟨xb, 0, none⟩) (ltOfCell x0)).trans x0
          have x1 := (hb9.cell (p := ⟨xb, 1, none⟩) (ltOfCell x1)).trans x1
          have n1 := (hb9.cell (p := ⟨w.heap.size, 1, none⟩) (ltOfCell n1)).trans n1
          have hs89 := hb9.size
          clear hb9
          obtain ⟨by_, hby⟩ : ∃ x, x = (noFresh s0).cap - (used (noFresh s0).fs : Int) := ⟨_, rfl⟩
          obtain ⟨fl, hfl⟩ : ∃ x, x = 64 - ((noFresh s0).fs.length : Int) := ⟨_, rfl⟩
          rw [← hby, ← hfl]
          have hsw := swap_room s0 HS0.out.1 HS0.out.2 g m HMY.out
          unfold roomFor at hsw
          rw [show s0.cap = (noFresh s0).cap from rfl, ← hby, ← hfl] at hsw
          have HSW := Lib.hid hsw
          clear hsw hby hfl
          go_wp2_with fail
          refine (swap_ok w9 p b s0 HD9.out g (.slice a1 m.length c1) m HG9.out (by omega) HMY.out).mono ?_
          rintro e w10 ⟨rfl, hd10, hf10⟩
          have B10 := Lib.hid (B9.out.trans (hf10.below (B := w.heap.size) B9.out.size (fun k hk => by omega)))
          have HC10 := Lib.hid (HC9.out.kept hf10 (by omega) (by omega))
          have n1 := hf10.cellAt n1 (by omega)
          have HD10 := Lib.hid hd10
          clear hd10 hf10 x0 x1
          by_cases hroom : 18 + 16 * (m.length : Int) ≤ by_ ∧ 1 ≤ fl
          · obtain ⟨e1, e2⟩ := HSW.out.1 hroom
            rw [e1]
            have HE := Lib.hid e2
            clear e1 e2
            obtain ⟨r1, r2⟩ := hroom
            go_wp2_with fail
            refine (size_any w10 (m.length : Int) (by omega) (by omega)).mono ?_
            rintro e w11 ⟨rfl, rfl⟩
            rw [show sizeB (m.length : Int) = 18 + 16 * (m.length : Int) from by unfold sizeB; rw [if_neg (by have := (mayB_all HMY.out).2.2.1; have := may_len HMY.out; omega)]]
            go_wp2_with fail
            refine (dk_up w10 p b _ HD10.out).mono ?_
            rintro e w12 ⟨rfl, rfl⟩
            rw [HE.out]
            go_wp2
            go_ret
            exact ⟨rfl, B10.out⟩
          · have e1 := HSW.out.2 hroom
            have HDN := Lib.hid (show IsDk w10 p b (noFresh s0) from by have := HD10.out; rw [e1] at this; exact this)
            rw [e1]
            clear e1
            have hml64 := may_len HMY.out
            have hsz2 : sizeB (m.length : Int) = 18 + 16 * (m.length : Int) := by unfold sizeB; rw [if_neg (by have := (mayB_all HMY.out).2.2.1; omega)]
            have HSZ := Lib.hid hsz2
            clear hsz2
            by_cases r1 : 18 + 16 * (m.length : Int) ≤ by_
            · have r2 : ¬ 1 ≤ fl := fun h => hroom ⟨r1, h⟩
              clear hroom
              go_wp2_with fail
              refine (size_any w10 (m.length : Int) (by omega) (by omega)).mono ?_
              rintro e w11 ⟨rfl, rfl⟩
              rw [HSZ.out]
              go_wp2_with fail
              refine (dk_same w10 q c p b _ HC10.out HDN.out).mono ?_
              rintro e w12 ⟨rfl, hb12⟩
              have B12 := Lib.hid (B10.out.trans (hb12.mono B10.out.size))
              clear hb12
              go_wp2
              go_ret
              exact ⟨rfl, B12.out⟩
            · clear hroom
              go_wp2_with fail
              refine (size_any w10 (m.length : Int) (by omega) (by omega)).mono ?_
              rintro e w11 ⟨rfl, rfl⟩
              rw [HSZ.out]
              go_wp2_with fail
              refine (dk_same w10 q c p b _ HC10.out HDN.out).mono ?_
              rintro e w12 ⟨rfl, hb12⟩
              have B12 := Lib.hid (B10.out.trans (hb12.mono B10.out.size))
              clear hb12
              go_wp2
              go_ret
              exact ⟨rfl, B12.out⟩
  · go_wp2_with fail
    refine (awake_any _ P1.out).mono ?_
    rintro e w2 ⟨rfl, hb2⟩
    have B2 := Lib.hid (B1.out.trans (hb2.mono B1.out.size))
    clear hb2
    go_wp2
    go_ret
    exact ⟨rfl, B2.out⟩

end Go.Proofs.YtljmekdilhphaaaGreatDoor
