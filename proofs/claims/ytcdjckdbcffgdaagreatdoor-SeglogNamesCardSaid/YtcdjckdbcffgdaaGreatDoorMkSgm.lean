/- The walk of seglog.segment. -/
import Derived.Test.YtcdjckdbcffgdaaGreatDoorMDb
import Derived.Test.YtcdjckdbcffgdaaGreatDoorMDd
import Derived.Test.YtcdjckdbcffgdaaGreatDoorMAp
import Derived.Deep.RegionHeld3
namespace Go.Proofs.YtcdjckdbcffgdaaGreatDoor
open Go.RowKit

theorem Tryz.infoIxQ : (Tryz.prog.info? 95).map (fun i => (i.zero, i.size, i.bytes)) = some (some (.pointer none), 1, 8) := by kernel_rfl
theorem below_drewN'' (w : World) (q : Nat) : Below w.heap.size w (w.drewN q) := ⟨rfl, rfl, rfl, Nat.le_refl _, fun _ _ => rfl⟩
theorem dkRead_codes (st : DkSt) (n : List UInt8) : (dkRead st n).2 = 45 ∨ (dkRead st n).2 = 5 ∨ (dkRead st n).2 = 0 := by
  unfold dkRead
  split
  · exact .inl rfl
  · split
    · exact .inr (.inl rfl)
    · exact .inr (.inr rfl)

theorem sg_cell8 {w W5 w8 : World} {S : Nat → Prop} {g p : Nat} {l : LgSt} {sv iv : Value} {xs : List (Nat × Value)} {o ob : Obj} (HC : LgC w S g p l sv iv xs) (h : W5.heap[g]? = some o) (hgr : (W5.alloc ob).grownBy w8 iv.ownBlock) : w8.heap[g]? = some o := by
  have hl := lt_of_block h
  have hne : iv.ownBlock ≠ some g := fun hk => by
    obtain ⟨cur, hcur⟩ := row_block HC.row hk
    exact two_types HC.cell hcur (by decide) rfl
  refine (hgr.block g (by simp; omega) (by first | exact hne | exact hne.symm)).trans ?_
  exact (Below.alloc (Below.refl W5.heap.size W5) (Nat.le_refl _) _).block g hl |>.trans h

theorem sg_ix8 {w w2 w3 : World} {S : Nat → Prop} {g p : Nat} {l : LgSt} {sv iv : Value} {xs : List (Nat × Value)} {ob : Obj} {x ev q nx gd : Nat} {xv : Value} {m : Segs} (HC : LgC w S g p l sv iv xs)
    (HX : w.heap.size ≤ x) (HXV : ∀ b, xv.ownBlock = some b → w.heap.size ≤ b) (HIX : IsIx w2 x ev q nx gd xv m) (hgr : (w2.alloc ob).grownBy w3 iv.ownBlock) (v : Value) : IsIx (w3.setCell ⟨g, 6, none⟩ v) x ev q nx gd xv m := by
  have F2 : Fr (fun k => iv.ownBlock = some k ∨ k = g) w2 (w3.setCell ⟨g, 6, none⟩ v) :=
    ((Fr.pure (Below.alloc (Below.refl w2.heap.size w2) (Nat.le_refl _) _)).trans ((grown_fr hgr).mono fun k _ e => .inl e)).setCell ⟨g, 6, none⟩ (fun _ => .inr rfl) _
  have hg := HC.gl
  refine HIX.kept F2 ?_ ?_
  · rintro (h | h)
    · have := HC.lt _ (HC.siv _ h); omega
    · omega
  · rintro k hk (h | h)
    · have := HXV k hk; have := HC.lt _ (HC.siv _ h); omega
    · have := HXV k hk; omega

theorem OpEnv.g0 {w : World} {F : Nat → Prop} {g p b : Nat} {st : DkSt} {l : LgSt} (h : OpEnv w F g p b st l) : w.cell? ⟨g, 0, none⟩ = some (.pointer (some ⟨p, 0, none⟩)) := by
  obtain ⟨sv, iv, xs, S, hc, _⟩ := id h.lg
  exact hc.cs.1
theorem OpLeft.pureB {w W W1 : World} {F : Nat → Prop} {g p b : Nat} {st : DkSt} {l : LgSt} (h : OpLeft w F g p b (st, l) W) (hb : Below W.heap.size W W1) : OpLeft w F g p b (st, l) W1 := by
  obtain ⟨F', he, hfr, hF⟩ := h
  exact ⟨F', he.pure hb, hfr.trans (Fr.pure hb), hF⟩
theorem OpLeft.disk {w W W1 w' : World} {F : Nat → Prop} {g p b : Nat} {st st' : DkSt} {l : LgSt} (h : OpLeft w F g p b (st, l) W) (hb : Below W.heap.size W W1) (hd : IsDk w' p b st') (hf : DFr p b W1 w') : OpLeft w F g p b (st', l) w' := by
  obtain ⟨F', he, hfr, hF⟩ := h
  exact ⟨F', (he.pure hb).disk hd hf, (hfr.trans (Fr.pure hb)).trans (hf.mono fun _ _ e => .inr e), hF⟩

set_option maxRecDepth 100000 in
set_option maxHeartbeats 4000000 in
theorem segment_any (w : World) (F : Nat → Prop) (g p b : Nat) (st : DkSt) (l : LgSt) (h : OpEnv w F g p b st l) (i : Nat) (hi : i < l.segs.length) (hix : l.ix.length ≤ 64) :
    Calls Tryz.prog 66 #[.pointer (some ⟨g, 0, none⟩), .int .i64 (i : Int)] w fun e w' => e = .returned (.int .i64 (segF i (st, l)).2) ∧ OpLeft w F g p b (segF i (st, l)).1 w' := by
  obtain ⟨sv, iv, xs, S, hc, hSF, hSV, _⟩ := id h.lg
  obtain ⟨a0, c0, rfl⟩ := hc.segs.shape
  obtain ⟨g0, _, g2, _, g4, g5, g6⟩ := hc.cs
  obtain ⟨sb, so, hso, k1, k2, hsbl⟩ := hc.segs.at i hi
  cases hso
  have hgl := hc.gl
  have hfew := (mayB_all h.may).2.2.2.1
  obtain ⟨G, FF, hGF, hG1, hG2⟩ := may_nat h.may i hi
  have H := Lib.hid h
  have HC := Lib.hid hc
  have HSF := Lib.hid hSF
  have HSV := Lib.hid hSV
  have hgd : l.segs.getD i (0, 0) = l.segs[i] := by rw [List.getD_eq_getElem?_getD, List.getElem?_eq_getElem hi]; rfl
  have HGD := Lib.hid hgd
  have HNL := Lib.hid (show (nameOf l.segs[i]).length = 20 from by rw [hGF]; exact segName_len G FF hG1 hG2)
  clear h hc hSF hSV hgd hGF hG1 hG2
  go_enter Tryz.func66, Tryz.ntmps66
  go_wp2_with fail
  obtain ⟨w1, hw1⟩ : ∃ w1, w1 = w.alloc (.cells #[.int .i64 l.segs[i].1, .int .i64 l.segs[i].2] 76) := ⟨_, rfl⟩
  obtain ⟨eb, heb⟩ : ∃ eb, eb = w.heap.size := ⟨_, rfl⟩
  rw [← hw1, ← heb]
  have hb1 : Below w.heap.size w w1 := by rw [hw1]; exact (Below.refl _ _).alloc (Nat.le_refl _) _
  have he1 : w1.heap[eb]? = some (.cells #[.int .i64 l.segs[i].1, .int .i64 l.segs[i].2] 76 (0, 0)) := by rw [hw1, heb]; exact heap_alloc_new _ _
  have HB1 := Lib.hid hb1
  have HEB := Lib.hid heb
  have HE1 := Lib.hid he1
  clear hw1 heb hb1
  refine (name_any w1 (below_pow HB1.out H.out.libs.pow) l.segs[i].1 l.segs[i].2).mono ?_
  rintro e w2 ⟨⟨nm, hnm, rfl⟩, hb2⟩
  have hB2 := HB1.out.trans (hb2.mono HB1.out.size)
  have hns : nm.size = 20 := by rw [size_of_list hnm]; exact HNL.out
  have HNM : Hid (nm.data.toList = nameOf l.segs[i]) := Lib.hid hnm
  have q0 := (hB2.cell (p := ⟨g, 0, none⟩) hgl).trans g0
  have HE2 := Lib.hid ((hb2.block eb (lt_of_block HE1.out)).trans HE1.out)
  have HB2 := Lib.hid hB2
  clear hb2 hnm hB2
  go_wp2_with fail
  refine (dk_read w2 p b st (H.out.dk.pure HB2.out) nm (by unfold maxLen; omega)).mono ?_
  rw [HNM.out]
  rintro e w3 ⟨⟨s, hs, rfl⟩, hb3⟩
  have HB3 := Lib.hid (HB2.out.trans (hb3.mono HB2.out.size))
  have HE3 := Lib.hid ((hb3.block eb (lt_of_block HE2.out)).trans HE2.out)
  have HSS := Lib.hid hs
  have hsz : s.size ≤ 1048576 := by rw [size_of_list hs]; exact dkRead_len H.out.dk.ok _
  have hcode := dkRead_codes st (nameOf l.segs[i])
  clear hb3 hs q0
  rcases hcode with hcode | hcode | hcode
  · have ho : segF i (st, l) = ((st, l), 45) := by
      unfold segF
      simp only [HGD.out, hcode]
      rw [if_neg (by decide), if_pos (by decide)]
    have HO := Lib.hid ho
    rw [hcode]
    clear ho
    go_wp2
    go_ret
    exact ⟨by rw [HO.out]; rfl, by rw [HO.out]; exact H.out.stay HB3.out⟩
  · have ho : segF i (st, l) = ((st, l), 4) := by
      unfold segF
      simp only [HGD.out, hcode, if_true]
    have HO := Lib.hid ho
    rw [hcode]
    clear ho
    go_wp2
    go_ret
    exact ⟨by rw [HO.out]; rfl, by rw [HO.out]; exact H.out.stay HB3.out⟩
  · rw [hcode]
    obtain ⟨ev, hev1, hev2, hev3, hev4⟩ := ev_nat H.out.cfg
    have q2 := (HB3.out.cell (p := ⟨g, 2, none⟩) hgl).trans g2
    rw [← hev1] at q2
    have HEV := Lib.hid (And.intro hev1 hev4)
    clear hev1 hev4
    go_wp2_with fail
    refine (build_any s ev w3 hsz hev2 hev3).mono ?_
    rintro e w4 ⟨hb4, hbuild⟩
    have HB4 := Lib.hid (HB3.out.trans (hb4.mono HB3.out.size))
    have HB34 := Lib.hid hb4
    have HE4 := Lib.hid ((hb4.block eb (lt_of_block HE3.out)).trans HE3.out)
    have b1 : w4.cell? ⟨eb, 1, none⟩ = some (.int .i64 l.segs[i].2) := (cell_of_row _ _ _ _ _ _ HE4.out).trans rfl
    rcases hbuild with ⟨hne, rfl⟩ | ⟨hz, x, xv, hx, hxv, hix4, rfl⟩
    · have ho : segF i (st, l) = ((st, l), 4) := by
        unfold segF
        simp only [HGD.out, hcode]
        rw [if_neg (by decide), if_neg (by decide), if_pos (.inl (by rw [← HSS.out]; exact hne))]
      have HO := Lib.hid ho
      have hcb : ((sgScan s.data.toList).1 == 0) = false := by simpa using hne
      have hcb2 : ((sgScan s.data.toList).1 != 0) = true := by simpa using hne
      have hcb3 : decide ((sgScan s.data.toList).1 = 0) = false := by simpa using hne
      clear ho hb4 hcode
      go_wp2_with fail
      go_quiet (fail)
      go_wp2
      go_ret
      exact ⟨by rw [HO.out]; rfl, by rw [HO.out]; exact H.out.stay (HB4.out.trans ((below_drewN'' w4 _).mono HB4.out.size))⟩
    · have HX := Lib.hid (And.intro hx hxv)
      have HIX := Lib.hid hix4
      clear hx hxv hix4 hb4
      go_wp2_with fail
      refine wp_region_held_drew (S := (fun w' => w'.cell? ⟨eb, 1, none⟩ = some (.int .i64 l.segs[i].2) ∧ Below w4.heap.size w4 w')) (by kernel_rfl) ⟨b1, (Below.refl _ _).drew⟩ (fun hHeld => ?_)
      refine wpAnyH_take (i := 0) (oi := _) (v := ?_) (by simp only [List.getElem?_toArray, List.getElem?_cons_zero]; rfl) (by kernel_rfl) (by kernel_rfl) (by kernel_rfl) (by exact fun _ _ _ h => h) (Or.inl ⟨by rfl, ?_⟩) (by assumption) ?_
      rotate_left
      · (intro w hSw; (try dsimp only at hSw); go_simp; try with_reducible rfl)
      simp only [Act.put, List.setIfInBounds_toArray, List.set_cons_zero, List.set_cons_succ]
      refine wpAnyH_take (i := 1) (oi := _) (v := ?_) (by simp only [List.getElem?_toArray, List.getElem?_cons_succ, List.getElem?_cons_zero]; rfl) (by kernel_rfl) (by kernel_rfl) (by kernel_rfl) (by exact fun _ _ _ h => h) (Or.inl ⟨by rfl, ?_⟩) (by assumption) ?_
      rotate_left
      · (intro w hSw; (try dsimp only at hSw); go_simp; try with_reducible rfl)
      simp only [Act.put, List.setIfInBounds_toArray, List.set_cons_zero, List.set_cons_succ]
      refine wpAnyH_take (i := 2) (oi := _) (v := ?_) (by simp only [List.getElem?_toArray, List.getElem?_cons_succ, List.getElem?_cons_zero]; rfl) (by kernel_rfl) (by kernel_rfl) (by kernel_rfl) (by exact fun _ _ _ h => h) (Or.inl ⟨by rfl, ?_⟩) (by assumption) ?_
      rotate_left
      · (intro w hSw; (try dsimp only at hSw); go_simp; try with_reducible rfl)
      simp only [Act.put, List.setIfInBounds_toArray, List.set_cons_zero, List.set_cons_succ]
      refine wpAnyH_take (i := 3) (oi := _) (v := ?_) (by simp only [List.getElem?_toArray, List.getElem?_cons_succ, List.getElem?_cons_zero]; rfl) (by kernel_rfl) (by kernel_rfl) (by kernel_rfl) (by exact fun _ _ _ h => h) (Or.inl ⟨by rfl, ?_⟩) (by assumption) ?_
      rotate_left
      · (intro w hSw; (try dsimp only at hSw); go_simp; try with_reducible rfl)
      simp only [Act.put, List.setIfInBounds_toArray, List.set_cons_zero, List.set_cons_succ]
      refine wpAnyH_take (i := 5) (oi := _) (v := ?_) (by simp only [List.getElem?_toArray, List.getElem?_cons_succ, List.getElem?_cons_zero]; rfl) (by kernel_rfl) (by kernel_rfl) (by kernel_rfl) (by exact fun _ _ _ h => h) (Or.inl ⟨by rfl, ?_⟩) (by assumption) ?_
      rotate_left
      · (intro w hSw; (try dsimp only at hSw); go_simp; try with_reducible rfl)
      simp only [Act.put, List.setIfInBounds_toArray, List.set_cons_zero, List.set_cons_succ]
      refine wpAnyH_take (i := 6) (oi := _) (v := ?_) (by simp only [List.getElem?_toArray, List.getElem?_cons_succ, List.getElem?_cons_zero]; rfl) (by kernel_rfl) (by kernel_rfl) (by kernel_rfl) (by exact fun _ _ _ h => h) (Or.inl ⟨by rfl, ?_⟩) (by assumption) ?_
      rotate_left
      · (intro w hSw; (try dsimp only at hSw); go_simp; try with_reducible rfl)
      simp only [Act.put, List.setIfInBounds_toArray, List.set_cons_zero, List.set_cons_succ]
      refine wpAnyH_ready (rs := [4]) (by kernel_rfl) (by simp) ?_
      refine AllReadyH.cons (o := _) (by simp only [List.getElem?_toArray, List.getElem?_cons_succ, List.getElem?_cons_zero]; rfl) (fun K hK => ?_) AllReadyH.nil
      go_simp
      refine (ix_first _ x ev _ _ _ _ _ (HIX.out.pure hHeld.2)).mono ?_
      rintro e w5 ⟨rfl, rfl⟩
      have xS := hHeld
      clear hHeld
      refine hK.out _ _ xS (fun hHeld => ?_)
      clear hK K
      refine wpAnyH_take (i := 7) (oi := _) (v := ?_) (by simp only [List.getElem?_toArray, List.getElem?_cons_succ, List.getElem?_cons_zero]; rfl) (by kernel_rfl) (by kernel_rfl) (by kernel_rfl) (by exact fun _ _ _ h => h) (Or.inl ⟨by rfl, ?_⟩) (by assumption) ?_
      rotate_left
      · (intro w hSw; (try dsimp only at hSw); go_simp; try with_reducible rfl)
      simp only [Act.put, List.setIfInBounds_toArray, List.set_cons_zero, List.set_cons_succ]
      refine wpAnyH_take (i := 8) (oi := _) (v := ?_) (by simp only [List.getElem?_toArray, List.getElem?_cons_succ, List.getElem?_cons_zero]; rfl) (by kernel_rfl) (by kernel_rfl) (by kernel_rfl) (by exact fun _ _ _ h => h) (Or.inl ⟨by rfl, ?_⟩) (by assumption) ?_
      rotate_left
      · (intro w hSw; (try dsimp only at hSw); go_simp; try with_reducible rfl)
      simp only [Act.put, List.setIfInBounds_toArray, List.set_cons_zero, List.set_cons_succ]
      refine wpAnyH_done (by kernel_rfl) ?_ _
      have hb45 := hHeld.2
      have hs45 := hb45.size
      clear hHeld
      generalize w4.drew = W5 at hb45 hs45 ⊢
      have HB5 := Lib.hid (HB4.out.trans (hb45.mono HB4.out.size))
      have HB35 := Lib.hid (HB34.out.trans (hb45.mono HB34.out.size))
      have HIX5 := Lib.hid (HIX.out.pure hb45)
      clear hb45
      by_cases hq : ((sgScan s.data.toList).2.1 : Int) = l.segs[i].2
      rotate_left
      · have ho : segF i (st, l) = ((st, l), 4) := by
          unfold segF
          simp only [HGD.out, hcode]
          rw [if_neg (by decide), if_neg (by decide), if_pos (.inr (by rw [← HSS.out]; exact hq))]
        have HO := Lib.hid ho
        have hqb : (((sgScan s.data.toList).2.1 : Int) == l.segs[i].2) = false := by simpa using hq
        have hqn : (((sgScan s.data.toList).2.1 : Int) != l.segs[i].2) = true := by simpa using hq
        clear ho hcode
        go_wp2
        go_ret
        exact ⟨by rw [HO.out]; rfl, by rw [HO.out]; exact H.out.stay HB5.out⟩
      · have hqb : (((sgScan s.data.toList).2.1 : Int) == l.segs[i].2) = true := by simpa using hq
        have hqn : (((sgScan s.data.toList).2.1 : Int) != l.segs[i].2) = false := by simpa using hq
        have q6 := (HB5.out.cell (p := ⟨g, 6, none⟩) hgl).trans g6
        have hcg := (HB5.out.block g hgl).trans HC.out.cell
        have z6 := frozen_of_row _ _ 6 _ _ hcg
        have HCG := Lib.hid hcg
        have HROW := Lib.hid (HC.out.pure HB5.out).row
        obtain ⟨i0, hi0, hz0, hz1, hz2⟩ := info_parts Tryz.infoIxQ
        have HI := Lib.hid hi0
        have HZ0 := Lib.hid hz0
        have HZ1 := Lib.hid hz1
        have HZ2 := Lib.hid hz2
        obtain ⟨ia, inn, ic, hiv⟩ := own_shape HC.out.row
        have HIV := Lib.hid hiv
        clear hcg hi0 hz0 hz1 hz2
        subst hiv
        have hxl := HC.out.len
        by_cases hL : i + 1 = l.segs.length
        · have hLb : ((i : Int) == (l.segs.length : Int) - 1) = true := by simp; omega
          go_wp2_with (first
            | (refine wpList_append_lies _ rfl _ _ 98 rfl 0 95 i0 _ 1 8 Tryz.underlying98 HI.out HZ0.out HZ1.out HZ2.out rfl (by omega) _ l.ix.length (xs.map ixPtr) rfl (World.ownsRow.alloc HROW.out _) ⟨W5.heap.size, 0, none⟩ 1 1 [.pointer (some ⟨x, 0, none⟩)] rfl rfl (cells_new rfl rfl) (by simp [Value.oneCell']) (by omega) (by unfold maxLen; omega) (by omega) (Nat.zero_le _) (W5.heap.size + 1) (by simp) ?_; intro gg cap w8 hown8 hgrow8 hat8 hlt8
               have HOWN8 := Lib.hid hown8
               have HGROW8 : Hid (World.grownBy (W5.alloc (.cells #[.pointer (some ⟨x, 0, none⟩)] 95)) w8 (Value.slice ia inn ic).ownBlock) := Lib.hid hgrow8
               have HAT8 : Hid ((Value.slice ia inn ic).ownBlock = some gg ∨ gg = W5.heap.size + 1) := Lib.hid hat8
               have HLT8 := Lib.hid hlt8
               have hc8 := sg_cell8 HC.out HCG.out HGROW8.out
               clear hown8 hgrow8 hat8 hlt8
               have p5 : w8.cell? ⟨g, 5, none⟩ = some (.slice (some ⟨sb, so, none⟩) l.segs.length c0) := (cell_of_row _ _ _ _ _ _ hc8).trans rfl
               have p6 : w8.cell? ⟨g, 6, none⟩ = some (.slice ia inn ic) := (cell_of_row _ _ _ _ _ _ hc8).trans rfl
               have z5 := frozen_of_row _ _ 5 _ _ hc8
               have z6 := frozen_of_row _ _ 6 _ _ hc8
               have HC8 := Lib.hid hc8
               clear hc8))
          have hev : l.ev = ev := HEV.out.2
          have HIX8 := Lib.hid (sg_ix8 (HC.out.pure HB3.out) HX.out.1 HX.out.2 HIX5.out HGROW8.out (.slice (some ⟨gg, 0, none⟩) (l.ix.length + 1) cap))
          have HOL := Lib.hid (seg_post (X := (sgScan s.data.toList).2) H.out HB3.out (HC.out.pure HB3.out) HSF.out HSV.out HB35.out HX.out.1 HX.out.2 (by rw [hev]; exact HIX5.out) (Below.alloc (Below.refl W5.heap.size W5) (Nat.le_refl _) _) (by simp) HOWN8.out HGROW8.out HAT8.out HLT8.out HC8.out)
          refine (ix_good _ x ev _ _ _ _ _ HIX8.out).mono ?_
          rintro e w9 ⟨rfl, rfl⟩
          by_cases hgd : (sgScan s.data.toList).2.good < s.size
          · have hgb : decide (((sgScan s.data.toList).2.good : Int) < (s.size : Int)) = true := by simpa using hgd
            go_wp2_with fail
            obtain ⟨F', hoe, hofr, hoF⟩ := id HOL.out
            have HOE := Lib.hid hoe
            have q8 := hoe.g0
            clear hoe hofr hoF
            refine wp_region_held_drew (S := (fun w' => w'.cell? ⟨g, 0, none⟩ = some (.pointer (some ⟨p, 0, none⟩)))) (by kernel_rfl) (by exact q8) (fun hHeld => ?_)
            refine wpAnyH_take (i := 0) (oi := _) (v := ?_) (by simp only [List.getElem?_toArray, List.getElem?_cons_zero]; rfl) (by kernel_rfl) (by kernel_rfl) (by kernel_rfl) (by exact fun _ _ _ h => h) (Or.inl ⟨by rfl, ?_⟩) (by assumption) ?_
            rotate_left
            · (intro w hSw; (try dsimp only at hSw); go_simp; try with_reducible rfl)
            simp only [Act.put, List.setIfInBounds_toArray, List.set_cons_zero, List.set_cons_succ]
            refine wpAnyH_take (i := 1) (oi := _) (v := ?_) (by simp only [List.getElem?_toArray, List.getElem?_cons_succ, List.getElem?_cons_zero]; rfl) (by kernel_rfl) (by kernel_rfl) (by kernel_rfl) (by exact fun _ _ _ h => h) (Or.inl ⟨by rfl, ?_⟩) (by assumption) ?_
            rotate_left
            · (intro w hSw; (try dsimp only at hSw); go_simp; try with_reducible rfl)
            simp only [Act.put, List.setIfInBounds_toArray, List.set_cons_zero, List.set_cons_succ]
            refine wpAnyH_take (i := 2) (oi := _) (v := ?_) (by simp only [List.getElem?_toArray, List.getElem?_cons_succ, List.getElem?_cons_zero]; rfl) (by kernel_rfl) (by kernel_rfl) (by kernel_rfl) (by exact fun _ _ _ h => h) (Or.inl ⟨by rfl, ?_⟩) (by assumption) ?_
            rotate_left
            · (intro w hSw; (try dsimp only at hSw); go_simp; try with_reducible rfl)
            simp only [Act.put, List.setIfInBounds_toArray, List.set_cons_zero, List.set_cons_succ]
            refine wpAnyH_take (i := 3) (oi := _) (v := ?_) (by simp only [List.getElem?_toArray, List.getElem?_cons_succ, List.getElem?_cons_zero]; rfl) (by kernel_rfl) (by kernel_rfl) (by kernel_rfl) (by exact fun _ _ _ h => h) (Or.inl ⟨by rfl, ?_⟩) (by assumption) ?_
            rotate_left
            · (intro w hSw; (try dsimp only at hSw); go_simp; try with_reducible rfl)
            simp only [Act.put, List.setIfInBounds_toArray, List.set_cons_zero, List.set_cons_succ]
            refine wpAnyH_take (i := 4) (oi := _) (v := ?_) (by simp only [List.getElem?_toArray, List.getElem?_cons_succ, List.getElem?_cons_zero]; rfl) (by kernel_rfl) (by kernel_rfl) (by kernel_rfl) (by exact fun _ _ _ h => h) (Or.inl ⟨by rfl, ?_⟩) (by assumption) ?_
            rotate_left
            · (intro w hSw; (try dsimp only at hSw); go_simp; try with_reducible rfl)
            simp only [Act.put, List.setIfInBounds_toArray, List.set_cons_zero, List.set_cons_succ]
            refine wpAnyH_take (i := 5) (oi := _) (v := ?_) (by simp only [List.getElem?_toArray, List.getElem?_cons_succ, List.getElem?_cons_zero]; rfl) (by kernel_rfl) (by kernel_rfl) (by kernel_rfl) (by exact fun _ _ _ h => h) (Or.inl ⟨by rfl, ?_⟩) (by assumption) ?_
            rotate_left
            · (intro w hSw; (try dsimp only at hSw); go_simp; try with_reducible rfl)
            simp only [Act.put, List.setIfInBounds_toArray, List.set_cons_zero, List.set_cons_succ]
            refine wpAnyH_ready (rs := [6]) (by kernel_rfl) (by simp) ?_
            refine AllReadyH.cons (o := _) (by simp only [List.getElem?_toArray, List.getElem?_cons_succ, List.getElem?_cons_zero]; rfl) (fun K hK => ?_) AllReadyH.nil
            go_simp
            refine (ix_good _ x ev _ _ _ _ _ (HIX8.out.pure (Below.refl _ _).drew)).mono ?_
            rintro e w9 ⟨rfl, rfl⟩
            have xS := hHeld
            clear hHeld
            refine hK.out _ _ xS (fun hHeld => ?_)
            clear hK K
            refine wpAnyH_ready (rs := [7]) (by kernel_rfl) (by simp) ?_
            refine AllReadyH.cons (o := _) (by simp only [List.getElem?_toArray, List.getElem?_cons_succ, List.getElem?_cons_zero]; rfl) (fun K hK => ?_) AllReadyH.nil
            go_simp
            refine (dk_trim _ p b st (HOE.out.dk.pure (Below.refl _ _).drew) nm _ (by unfold maxLen; omega)).mono ?_
            rintro e w11 ⟨rfl, hd, hf⟩
            have HD := Lib.hid hd
            have HF := Lib.hid hf
            have xS := ((HOE.out.pure (Below.refl _ _).drew).disk hd hf).g0
            clear hHeld hd hf
            refine hK.out _ _ xS (fun hHeld => ?_)
            clear hK K
            refine wpAnyH_take (i := 8) (oi := _) (v := ?_) (by simp only [List.getElem?_toArray, List.getElem?_cons_succ, List.getElem?_cons_zero]; rfl) (by kernel_rfl) (by kernel_rfl) (by kernel_rfl) (by exact fun _ _ _ h => h) (Or.inl ⟨by rfl, ?_⟩) (by assumption) ?_
            rotate_left
            · (intro w hSw; (try dsimp only at hSw); go_simp; try with_reducible rfl)
            simp only [Act.put, List.setIfInBounds_toArray, List.set_cons_zero, List.set_cons_succ]
            refine wpAnyH_done (by kernel_rfl) ?_ _
            have ho : segF i (st, l) = (((dkTrim st nm.data.toList (sgScan s.data.toList).2.good).1, l.more (sgScan s.data.toList).2), (dkTrim st nm.data.toList (sgScan s.data.toList).2.good).2) := by
              unfold segF
              simp only [HGD.out, hcode]
              rw [if_neg (by decide), if_neg (by decide), if_neg (by rw [← HSS.out]; simp [hz, hq]), if_pos hL, if_pos (by rw [← HSS.out, ← size_of_list rfl]; exact hgd), ← HSS.out, HNM.out]
              rfl
            have HO := Lib.hid ho
            clear ho hcode
            go_wp2
            go_ret
            exact ⟨by rw [HO.out]; rfl, by rw [HO.out]; exact HOL.out.disk (Below.refl _ _).drew HD.out HF.out⟩
          · have hgb : decide (((sgScan s.data.toList).2.good : Int) < (s.size : Int)) = false := by simpa using hgd
            have ho : segF i (st, l) = ((st, l.more (sgScan s.data.toList).2), 0) := by
              unfold segF
              simp only [HGD.out, hcode]
              rw [if_neg (by decide), if_neg (by decide), if_neg (by rw [← HSS.out]; simp [hz, hq]), if_pos hL, if_neg (by rw [← HSS.out, ← size_of_list rfl]; exact hgd), ← HSS.out]
              rfl
            have HO := Lib.hid ho
            clear ho hcode
            go_wp2
            go_ret
            exact ⟨by rw [HO.out]; rfl, by rw [HO.out]; exact HOL.out⟩
        · have hLb : ((i : Int) == (l.segs.length : Int) - 1) = false := by simp; omega
          go_wp2_with (first
            | (refine wpList_append_lies _ rfl _ _ 98 rfl 0 95 i0 _ 1 8 Tryz.underlying98 HI.out HZ0.out HZ1.out HZ2.out rfl (by omega) _ l.ix.length (xs.map ixPtr) rfl (World.ownsRow.alloc HROW.out _) ⟨W5.heap.size, 0, none⟩ 1 1 [.pointer (some ⟨x, 0, none⟩)] rfl rfl (cells_new rfl rfl) (by simp [Value.oneCell']) (by omega) (by unfold maxLen; omega) (by omega) (Nat.zero_le _) (W5.heap.size + 1) (by simp) ?_; intro gg cap w8 hown8 hgrow8 hat8 hlt8
               have HOWN8 := Lib.hid hown8
               have HGROW8 : Hid (World.grownBy (W5.alloc (.cells #[.pointer (some ⟨x, 0, none⟩)] 95)) w8 (Value.slice ia inn ic).ownBlock) := Lib.hid hgrow8
               have HAT8 : Hid ((Value.slice ia inn ic).ownBlock = some gg ∨ gg = W5.heap.size + 1) := Lib.hid hat8
               have HLT8 := Lib.hid hlt8
               have hc8 := sg_cell8 HC.out HCG.out HGROW8.out
               clear hown8 hgrow8 hat8 hlt8
               have p5 : w8.cell? ⟨g, 5, none⟩ = some (.slice (some ⟨sb, so, none⟩) l.segs.length c0) := (cell_of_row _ _ _ _ _ _ hc8).trans rfl
               have p6 : w8.cell? ⟨g, 6, none⟩ = some (.slice ia inn ic) := (cell_of_row _ _ _ _ _ _ hc8).trans rfl
               have z5 := frozen_of_row _ _ 5 _ _ hc8
               have z6 := frozen_of_row _ _ 6 _ _ hc8
               have HC8 := Lib.hid hc8
               clear hc8))
          have hev : l.ev = ev := HEV.out.2
          have HIX8 := Lib.hid (sg_ix8 (HC.out.pure HB3.out) HX.out.1 HX.out.2 HIX5.out HGROW8.out (.slice (some ⟨gg, 0, none⟩) (l.ix.length + 1) cap))
          have HOL := Lib.hid (seg_post (X := (sgScan s.data.toList).2) H.out HB3.out (HC.out.pure HB3.out) HSF.out HSV.out HB35.out HX.out.1 HX.out.2 (by rw [hev]; exact HIX5.out) (Below.alloc (Below.refl W5.heap.size W5) (Nat.le_refl _) _) (by simp) HOWN8.out HGROW8.out HAT8.out HLT8.out HC8.out)
          refine (ix_good _ x ev _ _ _ _ _ HIX8.out).mono ?_
          rintro e w9 ⟨rfl, rfl⟩
          by_cases hgd : (sgScan s.data.toList).2.good < s.size
          · have hgb : decide (((sgScan s.data.toList).2.good : Int) < (s.size : Int)) = true := by simpa using hgd
            have ho : segF i (st, l) = ((st, l.more (sgScan s.data.toList).2), 42) := by
              unfold segF
              simp only [HGD.out, hcode]
              rw [if_neg (by decide), if_neg (by decide), if_neg (by rw [← HSS.out]; simp [hz, hq]), if_neg hL, if_pos (by rw [← HSS.out, ← size_of_list rfl]; exact hgd), ← HSS.out]
              rfl
            have HO := Lib.hid ho
            clear ho hcode
            go_wp2
            go_ret
            exact ⟨by rw [HO.out]; rfl, by rw [HO.out]; exact HOL.out⟩
          · have hgb : decide (((sgScan s.data.toList).2.good : Int) < (s.size : Int)) = false := by simpa using hgd
            go_wp2_with fail
            obtain ⟨F', hoe, hofr, hoF⟩ := id HOL.out
            have hi1 : i + 1 < l.segs.length := by omega
            obtain ⟨sv9, iv9, xs9, S9, hc9, _⟩ := id hoe.lg
            obtain ⟨a9, c9, rfl⟩ := hc9.segs.shape
            obtain ⟨_, _, _, _, _, q5, _⟩ := hc9.cs
            obtain ⟨sb9, so9, hso9, _, q7, _⟩ := hc9.segs.at (i + 1) hi1
            cases hso9
            clear hoe hofr hoF hc9
            change World.cell? _ ⟨g, 5, none⟩ = some (.slice (some ⟨sb9, so9, none⟩) l.segs.length c9) at q5
            change World.cell? _ ⟨sb9, so9 + (i + 1) * 2 + 1, none⟩ = some (.int .i64 l.segs[i + 1].2) at q7
            have hgd1 : l.segs.getD (i + 1) (0, 0) = l.segs[i + 1] := by rw [List.getD_eq_getElem?_getD, List.getElem?_eq_getElem hi1]; rfl
            have HGD1 := Lib.hid hgd1
            clear hgd1
            have hiW : IntKind.i64.wrap ((i : Int) + 1) = (i : Int) + 1 := IntWalk.i64_in _ (by omega)
            have hiA : ((i : Int) + 1).toNat = i + 1 := by omega
            have hiB : (i : Int) + 1 < (l.segs.length : Int) := by omega
            have hiC : (0 : Int) ≤ (i : Int) + 1 := by omega
            refine wp_region_held_drew (S := (fun w' => w'.cell? ⟨g, 5, none⟩ = some (.slice (some ⟨sb9, so9, none⟩) l.segs.length c9) ∧ w'.cell? ⟨sb9, so9 + (i + 1) * 2 + 1, none⟩ = some (.int .i64 l.segs[i + 1].2))) (by kernel_rfl) ⟨q5, q7⟩ (fun hHeld => ?_)
            refine wpAnyH_take (i := 0) (oi := _) (v := ?_) (by simp only [List.getElem?_toArray, List.getElem?_cons_zero]; rfl) (by kernel_rfl) (by kernel_rfl) (by kernel_rfl) (by exact fun _ _ _ h => h) (Or.inl ⟨by rfl, ?_⟩) (by assumption) ?_
            rotate_left
            · (intro w hSw; (try dsimp only at hSw); go_simp; try with_reducible rfl)
            simp only [Act.put, List.setIfInBounds_toArray, List.set_cons_zero, List.set_cons_succ]
            refine wpAnyH_take (i := 2) (oi := _) (v := ?_) (by simp only [List.getElem?_toArray, List.getElem?_cons_succ, List.getElem?_cons_zero]; rfl) (by kernel_rfl) (by kernel_rfl) (by kernel_rfl) (by exact fun _ _ _ h => h) (Or.inl ⟨by rfl, ?_⟩) (by assumption) ?_
            rotate_left
            · (intro w hSw; (try dsimp only at hSw); go_simp; try with_reducible rfl)
            simp only [Act.put, List.setIfInBounds_toArray, List.set_cons_zero, List.set_cons_succ]
            refine wpAnyH_take (i := 3) (oi := _) (v := ?_) (by simp only [List.getElem?_toArray, List.getElem?_cons_succ, List.getElem?_cons_zero]; rfl) (by kernel_rfl) (by kernel_rfl) (by kernel_rfl) (by exact fun _ _ _ h => h) (Or.inl ⟨by rfl, ?_⟩) (by assumption) ?_
            rotate_left
            · (intro w hSw; (try dsimp only at hSw); go_simp; try with_reducible rfl)
            simp only [Act.put, List.setIfInBounds_toArray, List.set_cons_zero, List.set_cons_succ]
            refine wpAnyH_take (i := 4) (oi := _) (v := ?_) (by simp only [List.getElem?_toArray, List.getElem?_cons_succ, List.getElem?_cons_zero]; rfl) (by kernel_rfl) (by kernel_rfl) (by kernel_rfl) (by exact fun _ _ _ h => h) (Or.inl ⟨by rfl, ?_⟩) (by assumption) ?_
            rotate_left
            · (intro w hSw; (try dsimp only at hSw); go_simp; try with_reducible rfl)
            simp only [Act.put, List.setIfInBounds_toArray, List.set_cons_zero, List.set_cons_succ]
            refine wpAnyH_take (i := 5) (oi := _) (v := ?_) (by simp only [List.getElem?_toArray, List.getElem?_cons_succ, List.getElem?_cons_zero]; rfl) (by kernel_rfl) (by kernel_rfl) (by kernel_rfl) (by exact fun _ _ _ h => h) (Or.inl ⟨by rfl, ?_⟩) (by assumption) ?_
            rotate_left
            · (intro w hSw; (try dsimp only at hSw); go_simp; try with_reducible rfl)
            simp only [Act.put, List.setIfInBounds_toArray, List.set_cons_zero, List.set_cons_succ]
            refine wpAnyH_take (i := 6) (oi := _) (v := ?_) (by simp only [List.getElem?_toArray, List.getElem?_cons_succ, List.getElem?_cons_zero]; rfl) (by kernel_rfl) (by kernel_rfl) (by kernel_rfl) (by exact fun _ _ _ h => h) (Or.inl ⟨by rfl, ?_⟩) (by assumption) ?_
            rotate_left
            · (intro w hSw; (try dsimp only at hSw); go_simp; try with_reducible rfl)
            simp only [Act.put, List.setIfInBounds_toArray, List.set_cons_zero, List.set_cons_succ]
            refine wpAnyH_take (i := 7) (oi := _) (v := ?_) (by simp only [List.getElem?_toArray, List.getElem?_cons_succ, List.getElem?_cons_zero]; rfl) (by kernel_rfl) (by kernel_rfl) (by kernel_rfl) (by exact fun _ _ _ h => h) (Or.inl ⟨by rfl, ?_⟩) (by assumption) ?_
            rotate_left
            · (intro w hSw; (try dsimp only at hSw); go_simp; try with_reducible rfl)
            simp only [Act.put, List.setIfInBounds_toArray, List.set_cons_zero, List.set_cons_succ]
            refine wpAnyH_take (i := 8) (oi := _) (v := ?_) (by simp only [List.getElem?_toArray, List.getElem?_cons_succ, List.getElem?_cons_zero]; rfl) (by kernel_rfl) (by kernel_rfl) (by kernel_rfl) (by exact fun _ _ _ h => h) (Or.inl ⟨by rfl, ?_⟩) (by assumption) ?_
            rotate_left
            · (intro w hSw; (try dsimp only at hSw); go_simp; try with_reducible rfl)
            simp only [Act.put, List.setIfInBounds_toArray, List.set_cons_zero, List.set_cons_succ]
            refine wpAnyH_take (i := 9) (oi := _) (v := ?_) (by simp only [List.getElem?_toArray, List.getElem?_cons_succ, List.getElem?_cons_zero]; rfl) (by kernel_rfl) (by kernel_rfl) (by kernel_rfl) (by exact fun _ _ _ h => h) (Or.inl ⟨by rfl, ?_⟩) (by assumption) ?_
            rotate_left
            · (intro w hSw; (try dsimp only at hSw); go_simp; try with_reducible rfl)
            simp only [Act.put, List.setIfInBounds_toArray, List.set_cons_zero, List.set_cons_succ]
            refine wpAnyH_take (i := 10) (oi := _) (v := ?_) (by simp only [List.getElem?_toArray, List.getElem?_cons_succ, List.getElem?_cons_zero]; rfl) (by kernel_rfl) (by kernel_rfl) (by kernel_rfl) (by exact fun _ _ _ h => h) (Or.inl ⟨by rfl, ?_⟩) (by assumption) ?_
            rotate_left
            · (intro w hSw; (try dsimp only at hSw); go_simp; try with_reducible rfl)
            simp only [Act.put, List.setIfInBounds_toArray, List.set_cons_zero, List.set_cons_succ]
            refine wpAnyH_take (i := 11) (oi := _) (v := ?_) (by simp only [List.getElem?_toArray, List.getElem?_cons_succ, List.getElem?_cons_zero]; rfl) (by kernel_rfl) (by kernel_rfl) (by kernel_rfl) (by exact fun _ _ _ h => h) (Or.inl ⟨by rfl, ?_⟩) (by assumption) ?_
            rotate_left
            · (intro w hSw; (try dsimp only at hSw); go_simp; try with_reducible rfl)
            simp only [Act.put, List.setIfInBounds_toArray, List.set_cons_zero, List.set_cons_succ]
            refine wpAnyH_ready (rs := [1]) (by kernel_rfl) (by simp) ?_
            refine AllReadyH.cons (o := _) (by simp only [List.getElem?_toArray, List.getElem?_cons_succ, List.getElem?_cons_zero]; rfl) (fun K hK => ?_) AllReadyH.nil
            go_simp
            refine (ix_next _ x ev _ _ _ _ _ (HIX8.out.pure (Below.refl _ _).drew)).mono ?_
            rintro e w9 ⟨rfl, rfl⟩
            have xS := hHeld
            clear hHeld
            refine hK.out _ _ xS (fun hHeld => ?_)
            clear hK K
            refine wpAnyH_take (i := 12) (oi := _) (v := ?_) (by simp only [List.getElem?_toArray, List.getElem?_cons_succ, List.getElem?_cons_zero]; rfl) (by kernel_rfl) (by kernel_rfl) (by kernel_rfl) (by exact fun _ _ _ h => h) (Or.inl ⟨by rfl, ?_⟩) (by assumption) ?_
            rotate_left
            · (intro w hSw; (try dsimp only at hSw); go_simp; try with_reducible rfl)
            simp only [Act.put, List.setIfInBounds_toArray, List.set_cons_zero, List.set_cons_succ]
            refine wpAnyH_take (i := 13) (oi := _) (v := ?_) (by simp only [List.getElem?_toArray, List.getElem?_cons_succ, List.getElem?_cons_zero]; rfl) (by kernel_rfl) (by kernel_rfl) (by kernel_rfl) (by exact fun _ _ _ h => h) (Or.inl ⟨by rfl, ?_⟩) (by assumption) ?_
            rotate_left
            · (intro w hSw; (try dsimp only at hSw); go_simp; try with_reducible rfl)
            simp only [Act.put, List.setIfInBounds_toArray, List.set_cons_zero, List.set_cons_succ]
            refine wpAnyH_done (by kernel_rfl) ?_ _
            by_cases hn : ((sgScan s.data.toList).2.next : Int) = l.segs[i + 1].2
            · have hnb : (((sgScan s.data.toList).2.next : Int) == l.segs[i + 1].2) = true := by simpa using hn
              have hnc : (((sgScan s.data.toList).2.next : Int) != l.segs[i + 1].2) = false := by simpa using hn
              have ho : segF i (st, l) = ((st, l.more (sgScan s.data.toList).2), 0) := by
                unfold segF
                simp only [HGD.out, HGD1.out, hcode]
                rw [if_neg (by decide), if_neg (by decide), if_neg (by rw [← HSS.out]; simp [hz, hq]), if_neg hL, if_neg (by rw [← HSS.out, ← size_of_list rfl]; exact hgd), if_neg (by rw [← HSS.out]; exact not_not_intro hn), ← HSS.out]
                rfl
              have HO := Lib.hid ho
              clear ho hcode
              go_wp2
              go_ret
              exact ⟨by rw [HO.out]; rfl, by rw [HO.out]; exact HOL.out.pureB (Below.refl _ _).drew⟩
            · have hnb : (((sgScan s.data.toList).2.next : Int) == l.segs[i + 1].2) = false := by simpa using hn
              have hnc : (((sgScan s.data.toList).2.next : Int) != l.segs[i + 1].2) = true := by simpa using hn
              have ho : segF i (st, l) = ((st, l.more (sgScan s.data.toList).2), 4) := by
                unfold segF
                simp only [HGD.out, HGD1.out, hcode]
                rw [if_neg (by decide), if_neg (by decide), if_neg (by rw [← HSS.out]; simp [hz, hq]), if_neg hL, if_neg (by rw [← HSS.out, ← size_of_list rfl]; exact hgd), if_pos (by rw [← HSS.out]; exact hn), ← HSS.out]
                rfl
              have HO := Lib.hid ho
              clear ho hcode
              go_wp2
              go_ret
              exact ⟨by rw [HO.out]; rfl, by rw [HO.out]; exact HOL.out.pureB (Below.refl _ _).drew⟩
end Go.Proofs.YtcdjckdbcffgdaaGreatDoor
