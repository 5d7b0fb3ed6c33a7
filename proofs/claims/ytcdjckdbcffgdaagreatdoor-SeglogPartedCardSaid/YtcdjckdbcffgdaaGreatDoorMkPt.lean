/- The walk of the law SeglogParted. -/
import Derived.Test.YtcdjckdbcffgdaaGreatDoorMDk
import Derived.Test.YtcdjckdbcffgdaaGreatDoorMDg
import Derived.Test.YtcdjckdbcffgdaaGreatDoorMEa
import Derived.Test.YtcdjckdbcffgdaaGreatDoorMEb
import Derived.Test.YtcdjckdbcffgdaaGreatDoorMAu
namespace Go.Proofs.YtcdjckdbcffgdaaGreatDoor
open Go.RowKit Go.Maps Go.Sort

theorem heldP_drew {W0 W : World} {g k g2 k2 : Nat} {v v2 : Value} (h : W.cell? ⟨g, k, none⟩ = some v ∧ W.cell? ⟨g2, k2, none⟩ = some v2 ∧ Below W0.heap.size W0 W) : W.drew.cell? ⟨g, k, none⟩ = some v ∧ W.drew.cell? ⟨g2, k2, none⟩ = some v2 ∧ Below W0.heap.size W0 W.drew := ⟨h.1, h.2.1, h.2.2.drew⟩
theorem heldP_alloc {W0 W : World} {g k g2 k2 : Nat} {v v2 : Value} (h : W.cell? ⟨g, k, none⟩ = some v ∧ W.cell? ⟨g2, k2, none⟩ = some v2 ∧ Below W0.heap.size W0 W) (o : Obj) : (W.alloc o).cell? ⟨g, k, none⟩ = some v ∧ (W.alloc o).cell? ⟨g2, k2, none⟩ = some v2 ∧ Below W0.heap.size W0 (W.alloc o) :=
  ⟨by rw [World.cell?_alloc_past _ _ _ (ltOfCell h.1)]; exact h.1, by rw [World.cell?_alloc_past _ _ _ (ltOfCell h.2.1)]; exact h.2.1, h.2.2.alloc h.2.2.size o⟩
theorem heldP_call {W0 W W' : World} {g k g2 k2 : Nat} {v v2 : Value} (h : W.cell? ⟨g, k, none⟩ = some v ∧ W.cell? ⟨g2, k2, none⟩ = some v2 ∧ Below W0.heap.size W0 W) (hb : Below W.heap.size W W') : W'.cell? ⟨g, k, none⟩ = some v ∧ W'.cell? ⟨g2, k2, none⟩ = some v2 ∧ Below W0.heap.size W0 W' :=
  ⟨(hb.cell (ltOfCell h.1)).trans h.1, (hb.cell (ltOfCell h.2.1)).trans h.2.1, h.2.2.trans (hb.mono h.2.2.size)⟩
theorem heldP_set {W0 W : World} {g k g2 k2 n o : Nat} {v v2 : Value} (h : W.cell? ⟨g, k, none⟩ = some v ∧ W.cell? ⟨g2, k2, none⟩ = some v2 ∧ Below W0.heap.size W0 W) (h1 : n ≠ g) (h2 : n ≠ g2) (h3 : W0.heap.size ≤ n) (u : Value) : (W.setCell ⟨n, o, none⟩ u).cell? ⟨g, k, none⟩ = some v ∧ (W.setCell ⟨n, o, none⟩ u).cell? ⟨g2, k2, none⟩ = some v2 ∧ Below W0.heap.size W0 (W.setCell ⟨n, o, none⟩ u) :=
  ⟨by rw [World.cell?_setCell_other _ _ _ _ (by intro e; exact h1 (congrArg Addr.block e))]; exact h.1, by rw [World.cell?_setCell_other _ _ _ _ (by intro e; exact h2 (congrArg Addr.block e))]; exact h.2.1, h.2.2.setCell h3 u⟩
/-- The scan of a segment that stands whole. -/
theorem scan_whole (W : World) (s : ByteArray) (X : SgIx) (hs : s.size ≤ 1048576) (h : s.data.toList = segBytes X.1 X.2) (hf : frOk X.1 X.2) (hq : X.1 ≤ 1048576) :
    Calls Tryz.prog 33 #[.string s] W fun e w' => (∃ va vc, e = .returned (.tuple #[.agg #[.int .i64 (X.1 : Int), .slice va X.2.length vc, .int .i64 (s.size : Int), .bool true], .int .i64 0])) ∧ Below W.heap.size W w' := by
  obtain ⟨h1, h2⟩ := pt_scan h hf hq
  refine (segscan_any s W hs).mono ?_
  rintro e w' ⟨hb, hpost⟩
  rw [h1] at hpost
  simp only [ne_eq, not_true_eq_false, if_false] at hpost
  obtain ⟨xs, v, hd, hown, _, rfl⟩ := hpost
  obtain ⟨e1, e2⟩ := h2 xs hd
  obtain ⟨va, vn, vc, rfl⟩ := own_shape hown
  have hvn : vn = xs.length := by
    obtain ⟨_, ⟨g1, g2⟩ | ⟨g, cap, cur, hv, _⟩⟩ := hown
    · cases g1; exact g2.symm
    · cases hv; rfl
  rw [e1, size_toList, hvn, e2, decide_eq_true rfl]
  exact ⟨⟨va, vc, rfl⟩, hb⟩

theorem filesAt_pure {w w' : World} {sv : Value} {l : Fs} (h : FilesAt w sv l) (hb : Below w.heap.size w w') : FilesAt w' sv l := by
  obtain ⟨a9, c9, e9, h9 | ⟨b9, o9, e8, h9⟩⟩ := h
  · exact ⟨a9, c9, e9, .inl h9⟩
  · refine ⟨a9, c9, e9, .inr ⟨b9, o9, e8, fun i hi => ?_⟩⟩
    obtain ⟨x9, y9, z9, g1, g2, g3, g4, g5, g6⟩ := h9 i hi
    exact ⟨x9, y9, z9, g1, g2, g3, (hb.cell (p := ⟨b9, o9 + i * 3, none⟩) (ltOfCell g4)).trans g4, (hb.cell (p := ⟨b9, o9 + i * 3 + 1, none⟩) (ltOfCell g5)).trans g5, (hb.cell (p := ⟨b9, o9 + i * 3 + 2, none⟩) (ltOfCell g6)).trans g6⟩
theorem same_self (W : World) (g : Int) (sa sb : Value) (m : Segs) (h1 : SegsAt W sa m) (h2 : SegsAt W sb m) (hl : m.length ≤ 64) :
    Calls Tryz.prog 18 #[.agg #[.int .i64 g, sa], .agg #[.int .i64 g, sb]] W fun e w' => e = .returned (.bool true) ∧ Below W.heap.size W w' := by
  have h := same_any W g g sa sb m m h1 h2 (by omega) (by omega)
  rw [show (decide (g = g) && m == m) = true from by simp] at h
  exact h

set_option maxRecDepth 100000 in
set_option maxHeartbeats 3000000 in
theorem seglogParted_any (w : World) (hl : Libs w) (x y z : Int) (hz0 : 0 ≤ z) (hz1 : z ≤ 255) (sv : Value) (acts : List ActS) (hs : ActsAt w sv acts) (hsl : acts.length ≤ 140737488355328) (hok : ∀ a ∈ acts, ActOk a) :
    Calls Tryz.prog 5 #[.agg #[.int .i64 x, .int .i64 y, .int .u8 z], sv] w fun e w' => e = .returned (.bool true) ∧ Below w.heap.size w w' := by
  obtain ⟨sa, sc, rfl⟩ := hs.shape
  have HL := Lib.hid hl
  have HS := Lib.hid hs
  have HOK := Lib.hid hok
  obtain ⟨w1, hw1⟩ : ∃ w1, w1 = w.alloc (.cells #[.int .i64 x, .int .i64 y, .int .u8 z] 23) := ⟨_, rfl⟩
  have hb1 : Below w.heap.size w w1 := by rw [hw1]; exact (Below.refl _ _).alloc (Nat.le_refl _) _
  have hk : w1.heap[w.heap.size]? = some (.cells #[.int .i64 x, .int .i64 y, .int .u8 z] 23 (0, 0)) := by rw [hw1]; exact heap_alloc_new _ _
  have HB1 := Lib.hid hb1
  have HK1 := Lib.hid hk
  clear hl hs hok hb1 hk
  go_enter Tryz.func5, Tryz.ntmps5
  go_wp2_with (go_at_call 7; rw [← hw1]; clear hw1; refine (works_any _ (below_pow HB1.out HL.out.pow)).mono ?_; rintro e w2 ⟨rfl, hb2⟩; have HB2 := Lib.hid (HB1.out.trans (hb2.mono HB1.out.size)); have HK2 := Lib.hid ((hb2.block _ (lt_of_block HK1.out)).trans HK1.out); clear hb2)
  refine (heavy_any _ _ acts (HS.out.pure HB2.out) hsl HOK.out).mono ?_
  rintro e w3 ⟨rfl, hb3⟩
  have HB3 := Lib.hid (HB2.out.trans (hb3.mono HB2.out.size))
  have HK3 := Lib.hid ((hb3.block _ (lt_of_block HK2.out)).trans HK2.out)
  clear hb3
  by_cases hh : 12000 ≤ hvN acts
  · have hd : decide (12000 ≤ hvN acts) = true := decide_eq_true hh
    rw [hd]
    clear hd hh
    go_wp2_with fail
    refine (works_any _ (below_pow HB3.out HL.out.pow)).mono ?_
    rintro e w4 ⟨rfl, hb4⟩
    have HB4 := Lib.hid (HB3.out.trans (hb4.mono HB3.out.size))
    clear hb4
    go_wp2
    go_ret
    exact ⟨rfl, HB4.out⟩
  have hd : decide (12000 ≤ hvN acts) = false := decide_eq_false hh
  rw [hd]
  have hlen : acts.length ≤ 200 := by have := hvN_len acts; omega
  have HPM := Lib.hid (show ∀ a ∈ acts, a.pay.size < 12000 from fun a ha => by have h1 := hvN_mem ha; unfold hvA at h1; omega)
  clear hd hh
  by_cases h60 : 60 < acts.length
  · have hd : decide ((60 : Int) < (acts.length : Int)) = true := by simp; omega
    have hd2 : (60 : Int) < (acts.length : Int) := by omega
    go_wp2_with fail
    refine (works_any _ (below_pow HB3.out HL.out.pow)).mono ?_
    rintro e w4 ⟨rfl, hb4⟩
    have HB4 := Lib.hid (HB3.out.trans (hb4.mono HB3.out.size))
    clear hb4
    go_wp2
    go_ret
    exact ⟨rfl, HB4.out⟩
  have hd : decide ((60 : Int) < (acts.length : Int)) = false := by simp; omega
  have hd2 : ¬ (60 : Int) < (acts.length : Int) := by omega
  go_wp2_with fail
  refine (dk_new w3 30000 (by decide)).mono ?_
  rintro e w4 ⟨hb4, h4⟩
  have HB4 := Lib.hid (HB3.out.trans (hb4.mono HB3.out.size))
  have hk4 := (hb4.block _ (lt_of_block HK3.out)).trans HK3.out
  have k0 : w4.cell? ⟨w.heap.size, 0, none⟩ = some (.int .i64 x) := (cell_of_row _ _ _ _ _ _ hk4).trans rfl
  have k1 : w4.cell? ⟨w.heap.size, 1, none⟩ = some (.int .i64 y) := (cell_of_row _ _ _ _ _ _ hk4).trans rfl
  have k2 : w4.cell? ⟨w.heap.size, 2, none⟩ = some (.int .u8 z) := (cell_of_row _ _ _ _ _ _ hk4).trans rfl
  have HK4 := Lib.hid hk4
  clear hb4 hk4
  rw [show dkLoad 30000 [] = (some ⟨[], 30000, -1, false⟩, 0) from rfl] at h4
  obtain ⟨p, b, hpg, hbg, rfl, hdk⟩ := h4
  have HD := Lib.hid hdk
  clear hdk
  obtain ⟨cf, hcf⟩ : ∃ cf : Cfg, cf = ⟨x, y, z⟩ := ⟨_, rfl⟩
  have hs34 := HB3.out.size
  have hw4s := ltOfCell k0
  have hk1s : w.heap.size < w3.heap.size := lt_of_block HK3.out
  cases hok : cfgOk cf
  · have hbad := init_bad w4 p b _ HD.out 0 cf (by rw [hcf]; exact hz0) (by rw [hcf]; exact hz1) (.inl hok)
    rw [hcf] at hbad
    go_wp2_with fail
    refine hbad.mono ?_
    rintro e w5 ⟨_, hf5, rfl⟩
    have HB5 := Lib.hid (HB4.out.trans (hf5.below (B := w.heap.size) HB4.out.size (fun k hk e => by rcases e with rfl | rfl <;> omega)))
    clear hf5 hbad
    go_wp2
    go_ret
    exact ⟨rfl, HB5.out⟩
  have hgo := init_go w4 (below_pow HB4.out HL.out.pow) p b _ HD.out 0 (by decide) cf (by rw [hcf]; exact hz0) (by rw [hcf]; exact hz1) hok rfl rfl
  rw [show ((0 : Nat) : Int) = 0 from rfl, init_room hok, hcf] at hgo
  go_wp2_with fail
  refine hgo.mono ?_
  rintro e w5 ⟨hd5, hf5, g, F, hlg, hF, rfl⟩
  have hpw := pow_lt HL.out.pow
  have hb5 : Below w.heap.size w w5 := HB4.out.trans (hf5.below (B := w.heap.size) HB4.out.size (fun k hk e => by rcases e with rfl | rfl <;> omega))
  have hnk : LgOk (newL cf 0) := newL_ok hok (by decide)
  have HPT := Lib.hid (show PtAt w w5 x y z F g p b ⟨newFs 0, 30000, -1, false⟩ (newL cf 0) from
    ⟨⟨by rw [hcf]; exact hlg, hd5, below_pow hb5 HL.out.pow, hnk, fun k hk => by have := hF k hk; have := HD.out.lt; have := HD.out.own.lt; exact ⟨by omega, by omega, by have e : PW < w.heap.size := hpw; omega⟩, by have e : PW < w.heap.size := hpw; omega⟩, hb5, fun k hk => by have := hF k hk; omega, by omega, by omega, hf5.heapAt HK4.out (fun e => by rcases e with e | e <;> omega)⟩)
  have HRL := Lib.hid (pt_new (c := cf))
  have HCF := Lib.hid (And.intro hok hcf)
  clear hd5 hf5 hlg hF hgo hb5 hnk hok hcf k0 k1 k2 HK1 HK2 HK3 HK4 HB1 HB2 HB3 HB4 HD
  go_wp2
  go_loopw [9] (fun i wr => ∃ (k : Nat) (F : Nat → Prop) (st : DkSt) (l : LgSt), i = .int .i64 (k : Int) ∧ k ≤ acts.length ∧ Hid (PtAt w wr x y z F g p b st l) ∧ Hid (PtRel st l cf)) (fun i _ => acts.length - (intOf i).toNat)
  case atStart => exact ⟨0, F, _, _, rfl, by omega, HPT, HRL⟩
  case round =>
    clear HPT HRL
    obtain ⟨k, F, st, l, rfl, hk, HPT, HRL⟩ := hrel
    by_cases hlt : k < acts.length
    · obtain ⟨pb, po, rfl, hpl, -, hc1, -, -, -, -⟩ := (HS.out.pure HPT.out.below).at k hlt
      have hps := HPM.out acts[k] (List.getElem_mem hlt)
      generalize acts[k].pay = pay at *
      go_wp2_with fail
      refine (lg_append wr F g p b st l HPT.out.env pay (by omega)).mono ?_
      rintro e w7 ⟨rfl, hl7⟩
      obtain ⟨F1, hk7⟩ := HPT.out.left hl7
      have HK7 := Lib.hid hk7
      have HR7 := Lib.hid (pt_append pay.data.toList (fs_apart HPT.out.env.dk.ok.fs) HPT.out.env.ok HRL.out)
      clear hl7 hk7
      go_wp2
      refine ⟨⟨k + 1, F1, _, _, by go_num, by omega, HK7, HR7⟩, ?_⟩
      simp [intOf]; omega
    have hgt : decide ((k : Int) < (acts.length : Int)) = false := by simp; omega
    have hpos := HPT.out.env.ok.pos
    have hfew := HPT.out.env.ok.few
    go_wp2_with fail
    refine (lg_segs wr F g p l HPT.out.env.lg hfew hpos).mono ?_
    rintro e w6 ⟨mv, rfl, hms, hmb, hb6⟩
    obtain ⟨ma, mn, mc, rfl⟩ := own_shape hms
    obtain rfl : mn = l.segs.length := by obtain ⟨a', c', e, _⟩ := hms.at; cases e; rfl
    obtain ⟨w7, hw7⟩ : ∃ w7, w7 = w6.alloc (.cells #[.int .i64 l.gen, .slice ma l.segs.length mc] 38) := ⟨_, rfl⟩
    obtain ⟨mB, hmB⟩ : ∃ mB, mB = w6.heap.size := ⟨_, rfl⟩
    have hb7 : Below w6.heap.size w6 w7 := by rw [hw7]; exact (Below.refl _ _).alloc (Nat.le_refl _) _
    have hmc : w7.heap[mB]? = some (.cells #[.int .i64 l.gen, .slice ma l.segs.length mc] 38 (0, 0)) := by rw [hw7, hmB]; exact heap_alloc_new _ _
    have HK7 := Lib.hid ((HPT.out.pure hb6).pure hb7)
    have HMC := Lib.hid hmc
    have HMS := Lib.hid (hms.at.pure hb7)
    have HMB := Lib.hid (show wr.heap.size ≤ mB by rw [hmB]; exact hb6.size)
    have HSO := Lib.hid hmb
    clear hms hmb hb6 hb7 hmc
    go_wp2_with fail
    rw [← hw7, ← hmB]
    clear hw7 hmB
    refine (dk_files w7 p b st HK7.out.env.dk).mono ?_
    rintro e w8 ⟨fv, rfl, hown, hfvb, hb8⟩
    obtain ⟨fa, fc, rfl⟩ := hown.at.shape
    have HFB := Lib.hid (show ∀ g, (Value.slice fa st.fs.length fc).ownBlock = some g → mB ≤ g from fun g hg => Nat.le_trans (Nat.le_of_lt (lt_of_block HMC.out)) (hfvb g hg))
    have HFV := Lib.hid hown.at
    have HK8 := Lib.hid (HK7.out.pure hb8)
    have HMC8 := Lib.hid ((hb8.block _ (lt_of_block HMC.out)).trans HMC.out)
    have HMS8 := Lib.hid (HMS.out.pure hb8)
    clear hown hb8 HK7 HMC HMS hfvb
    have hffew := HK8.out.env.dk.ok.fs.few
    go_wp2
    go_loopw [12, 13] (fun av i wx => ∃ j : Nat, av = .int .i64 ((ptAt l st.fs j : Nat) : Int) ∧ i = .int .i64 (j : Int) ∧ j ≤ st.fs.length ∧ Hid (Below w8.heap.size w8 wx)) (fun _ i _ => st.fs.length - (intOf i).toNat)
    case atStart => exact ⟨0, rfl, rfl, by omega, Lib.hid (Below.refl _ _)⟩
    case round =>
      obtain ⟨j, rfl, rfl, hj, HB⟩ := hrel
      have HPX := Lib.hid (HK8.out.pure HB.out)
      by_cases hjl : j < st.fs.length
      rotate_left
      · obtain rfl : j = st.fs.length := by omega
        have hend := pt_end HK8.out.env.ok HRL.out.st.lg HK8.out.env.dk.ok.fs HRL.out.gen
        rw [hend]
        have hm0 := (cell_of_row _ _ 0 _ _ _ ((HB.out.block _ (lt_of_block HMC8.out)).trans HMC8.out)).trans (show (#[.int .i64 l.gen, .slice ma l.segs.length mc] : Array Value)[0]? = some (.int .i64 l.gen) from rfl)
        have hm1 := (cell_of_row _ _ 1 _ _ _ ((HB.out.block _ (lt_of_block HMC8.out)).trans HMC8.out)).trans (show (#[.int .i64 l.gen, .slice ma l.segs.length mc] : Array Value)[1]? = some (.slice ma l.segs.length mc) from rfl)
        have HM := Lib.hid (And.intro hm0 hm1)
        have hgt2 : decide ((st.fs.length : Int) < (st.fs.length : Int)) = false := by simp
        clear hend hm0 hm1
        go_wp2_with fail
        refine (dk_cut wr p b st HPX.out.env.dk 0 (by decide) (by decide)).mono ?_
        rintro e wa ⟨rfl, hda, hfa⟩
        have hcut : dkCut st 0 = ({ st with left := 0 }, 0) := by unfold dkCut; rw [HRL.out.st.on.lit]; rfl
        rw [hcut] at hda ⊢
        have HPa := Lib.hid (HPX.out.disk hda hfa)
        have hmlt : ∀ k, (k = p ∨ k = b) → k ≠ mB := fun k hk e => by
          have h1 := HPT.out.env.dk.lt; have h2 := HPT.out.env.dk.own.lt; have h3 := HMB.out
          rcases hk with rfl | rfl <;> omega
        have hma0 := hfa.cellAt HM.out.1 (fun e => hmlt _ e rfl)
        have hma1 := hfa.cellAt HM.out.2 (fun e => hmlt _ e rfl)
        have hmsa : SegsAt wa (.slice ma l.segs.length mc) l.segs := ((HMS8.out.pure HB.out).kept hfa (fun k hk e => by
          have h9 := HSO.out k hk
          have h1 := HPT.out.env.dk.lt; have h2 := HPT.out.env.dk.own.lt
          rcases e with e | e <;> omega))
        have hfva : FilesAt wa (.slice fa st.fs.length fc) st.fs := by
          obtain ⟨a9, c9, e9, h9 | ⟨b9, o9, e8, h9⟩⟩ := HFV.out
          · exact ⟨a9, c9, e9, .inl h9⟩
          · refine ⟨a9, c9, e9, .inr ⟨b9, o9, e8, fun i hi => ?_⟩⟩
            obtain ⟨x9, y9, z9, g1, g2, g3, g4, g5, g6⟩ := h9 i hi
            have hb9 : ¬ (b9 = p ∨ b9 = b) := fun e => by
              have h9 := HFB.out b9 (by cases e9; rw [e8]; rfl)
              have h1 := HPT.out.env.dk.lt; have h2 := HPT.out.env.dk.own.lt; have h3 := HMB.out
              rcases e with e | e <;> omega
            exact ⟨x9, y9, z9, g1, g2, g3, hfa.cellAt ((HB.out.cell (p := ⟨b9, o9 + i * 3, none⟩) (ltOfCell g4)).trans g4) hb9, hfa.cellAt ((HB.out.cell (p := ⟨b9, o9 + i * 3 + 1, none⟩) (ltOfCell g5)).trans g5) hb9, hfa.cellAt ((HB.out.cell (p := ⟨b9, o9 + i * 3 + 2, none⟩) (ltOfCell g6)).trans g6) hb9⟩
        have HMa := Lib.hid (And.intro hma0 hma1)
        have HSa := Lib.hid (And.intro hmsa hfva)
        have k0 : wa.cell? ⟨w.heap.size, 0, none⟩ = some (.int .i64 x) := (cell_of_row _ _ _ _ _ _ HPa.out.cfg).trans rfl
        have k1 : wa.cell? ⟨w.heap.size, 1, none⟩ = some (.int .i64 y) := (cell_of_row _ _ _ _ _ _ HPa.out.cfg).trans rfl
        have k2 : wa.cell? ⟨w.heap.size, 2, none⟩ = some (.int .u8 z) := (cell_of_row _ _ _ _ _ _ HPa.out.cfg).trans rfl
        have hlo : LgOn { st with left := 0 } l := ⟨HRL.out.st.lg.man, HRL.out.st.lg.seg, HRL.out.st.lg.only⟩
        have hop := open_go wa (HL.out.pure HPa.out.below) p b { st with left := 0 } hda (by
          have h2 := HPa.out.fp; have h3 := HPa.out.fb
          exact ⟨fun e => by have := HL.out.lt p e; omega, fun e => by have := HL.out.lt b e; omega⟩) (pt_names (st := { st with left := 0 }) HPa.out.env.ok hlo) l.cfg (by rw [HRL.out.cfg, HCF.out.2]; exact hz0) (by rw [HRL.out.cfg, HCF.out.2]; exact hz1) (by rw [HRL.out.cfg]; exact HCF.out.1)
        rw [open_still (st := { st with left := 0 }) HRL.out.st.on.lit HPa.out.env.ok hlo, HRL.out.cfg, HCF.out.2] at hop
        have HOP := Lib.hid hop
        clear hda hfa hcut hma0 hma1 hmsa hfva hlo hop hmlt
        go_wp2_with fail
        refine HOP.out.mono ?_
        rintro e wq ⟨hdq, hfq, g2, F2, hlg2, hF2, rfl⟩
        have HPq := Lib.hid (HPa.out.disk hdq hfq)
        have hmlt : ∀ k, (k = p ∨ k = b) → k ≠ mB := fun k hk e => by
          have h1 := HPT.out.env.dk.lt; have h2 := HPT.out.env.dk.own.lt; have h3 := HMB.out
          rcases hk with rfl | rfl <;> omega
        have hq0 := hfq.cellAt HMa.out.1 (fun e => hmlt _ e rfl)
        have hq1 := hfq.cellAt HMa.out.2 (fun e => hmlt _ e rfl)
        have HMq := Lib.hid (HSa.out.1.kept hfq (fun k hk e => by
          have h9 := HSO.out k hk
          have h1 := HPT.out.env.dk.lt; have h2 := HPT.out.env.dk.own.lt
          rcases e with e | e <;> omega))
        have HFq : Hid (FilesAt wq (.slice fa st.fs.length fc) st.fs) := Lib.hid (by
          obtain ⟨a9, c9, e9, h9 | ⟨b9, o9, e8, h9⟩⟩ := HSa.out.2
          · exact ⟨a9, c9, e9, .inl h9⟩
          · refine ⟨a9, c9, e9, .inr ⟨b9, o9, e8, fun i hi => ?_⟩⟩
            obtain ⟨x9, y9, z9, g1, g2, g3, g4, g5, g6⟩ := h9 i hi
            have hb9 : ¬ (b9 = p ∨ b9 = b) := fun e => by
              have h9 := HFB.out b9 (by cases e9; rw [e8]; rfl)
              have h1 := HPT.out.env.dk.lt; have h2 := HPT.out.env.dk.own.lt; have h3 := HMB.out
              rcases e with e | e <;> omega
            exact ⟨x9, y9, z9, g1, g2, g3, hfq.cellAt g4 hb9, hfq.cellAt g5 hb9, hfq.cellAt g6 hb9⟩)
        have HLq := Lib.hid hlg2
        have hix : 0 < l.ix.length ∧ l.ix.length ≤ 1000000 := by have := HPq.out.env.ok.len; omega
        have HIX := Lib.hid hix
        have HFI := Lib.hid (show ∀ W gg FF, IsLg W FF gg p l → Calls Tryz.prog 11 #[.pointer (some ⟨gg, 0, none⟩)] W fun e w' => e = .returned (.int .i64 l.first) ∧ W = w' from fun W gg FF h => lg_first W FF gg p l h hpos)
        have HNX := Lib.hid (show ∀ W gg FF, IsLg W FF gg p l → Calls Tryz.prog 12 #[.pointer (some ⟨gg, 0, none⟩)] W fun e w' => e = .returned (.int .i64 (l.next : Int)) ∧ Below W.heap.size W w' from fun W gg FF h => lg_next W FF gg p l h hix.1 hix.2)
        clear hdq hfq hlg2 hF2 hmlt hix HOP k0 k1 k2
        go_wp2_with fail
        go_region_held3 (fun w' => w'.cell? ⟨mB, 0, none⟩ = some (.int .i64 l.gen) ∧ w'.cell? ⟨mB, 1, none⟩ = some (.slice ma l.segs.length mc) ∧ Below wq.heap.size wq w') (first | exact xS | exact ⟨hq0, hq1, (Below.refl _ _).drew⟩ | exact heldP_drew (by assumption) | fail) (first
          | (go_at_call 11; have hh := ‹_ ∧ _ ∧ Below wq.heap.size wq _›; with_reducible refine (HFI.out _ g2 F2 (HLq.out.pure hh.2.2)).mono ?_; rintro e wz ⟨rfl, rfl⟩; have xS := hh)
          | (go_at_call 11; have hh := ‹_ ∧ _ ∧ Below wq.heap.size wq _›; with_reducible refine (HFI.out _ g F (HPq.out.env.lg.pure hh.2.2)).mono ?_; rintro e wz ⟨rfl, rfl⟩; have xS := hh)
          | (go_at_call 12; have hh := ‹_ ∧ _ ∧ Below wq.heap.size wq _›; with_reducible refine (HNX.out _ g2 F2 (HLq.out.pure hh.2.2)).mono ?_; rintro e wz ⟨rfl, hbz⟩; have xS := heldP_call hh hbz; clear hbz)
          | (go_at_call 12; have hh := ‹_ ∧ _ ∧ Below wq.heap.size wq _›; with_reducible refine (HNX.out _ g F (HPq.out.env.lg.pure hh.2.2)).mono ?_; rintro e wz ⟨rfl, hbz⟩; have xS := heldP_call hh hbz; clear hbz)
          | (go_at_call 13; have hh := ‹_ ∧ _ ∧ Below wq.heap.size wq _›; refine (lg_segs _ F2 g2 p l (HLq.out.pure hh.2.2) hfew hpos).mono ?_; rintro e wz ⟨mv2, rfl, hms2, _, hbz⟩; have HM2 := Lib.hid hms2.at; have xS := heldP_call hh hbz; clear hbz hms2)
          | (go_at_call 18; have hh := ‹_ ∧ _ ∧ Below wq.heap.size wq _›; refine (same_self _ l.gen mv2 _ l.segs ?_ (HMq.out.pure hh.2.2) hfew).mono ?_; (first | exact HM2.out | exact HM2.out.pure (Below.refl _ _).drew | fail); rintro e wz ⟨rfl, hbz⟩; have xS := heldP_call hh hbz; clear hbz)
          | (go_at_call 10; have hh := ‹_ ∧ _ ∧ Below wq.heap.size wq _›; refine (dk_files _ p b { st with left := 0 } (HPq.out.env.dk.pure hh.2.2)).mono ?_; rintro e wz ⟨fv2, rfl, hown2, _, hbz⟩; have HF2 := Lib.hid hown2.at; have xS := heldP_call hh hbz; clear hown2 hbz)
          | (go_at_call 17; have hh := ‹_ ∧ _ ∧ Below wq.heap.size wq _›; refine (files_same _ fv2 _ st.fs HF2.out (filesAt_pure HFq.out hh.2.2) (by omega)).mono ?_; rintro e wz ⟨rfl, hbz⟩; have xS := heldP_call hh hbz; clear hbz))
        all_goals
          have hh := ‹_ ∧ _ ∧ Below wq.heap.size wq _›
          have HBZ := Lib.hid (HPq.out.below.trans (hh.2.2.mono HPq.out.below.size))
          clear hh
          go_wp2
          go_ret
          exact ⟨rfl, HBZ.out⟩
      obtain ⟨fb, fo, rfl, hfl, fn, fd, fp, hfn, hfd, hfp, hc0, hc1, hc2⟩ := (show FilesAt wr (.slice fa st.fs.length fc) st.fs from by
        obtain ⟨a9, c9, e9, h9 | ⟨b9, o9, e8, h9⟩⟩ := HFV.out
        · exact ⟨a9, c9, e9, .inl h9⟩
        · exact ⟨a9, c9, e9, .inr ⟨b9, o9, e8, fun i hi => by
            obtain ⟨x9, y9, z9, g1, g2, g3, g4, g5, g6⟩ := h9 i hi
            exact ⟨x9, y9, z9, g1, g2, g3, (HB.out.cell (p := ⟨b9, o9 + i * 3, none⟩) (ltOfCell g4)).trans g4, (HB.out.cell (p := ⟨b9, o9 + i * 3 + 1, none⟩) (ltOfCell g5)).trans g5, (HB.out.cell (p := ⟨b9, o9 + i * 3 + 2, none⟩) (ltOfCell g6)).trans g6⟩⟩⟩).at j hjl
      have hm := HK8.out.env.dk.ok.fs
      have hsm := hm.small st.fs[j] (List.getElem_mem hjl)
      have hnm := hm.names st.fs[j] (List.getElem_mem hjl)
      have hn1 := pt_names HK8.out.env.ok HRL.out.st.lg st.fs[j] (List.getElem_mem hjl)
      have hfns := size_of_list hfn
      have hsg := pt_seg HK8.out.env.ok HRL.out.st.lg (List.getElem_mem hjl)
      have HMF := Lib.hid (And.intro hfd (And.intro hfp hsm))
      cases hin : inB l st.fs[j]
      · have hout := pt_out hjl hin
        have HOUT := Lib.hid hout
        have hnseg : ¬ isSeg fn.data.toList := by rw [hfn, hsg, hin]; simp
        have HNS := Lib.hid hnseg
        clear hout hnseg hsg hm hsm hfd hfp hin hfn hc1 hc2
        go_wp2_with fail
        refine (named_any wr (HL.out.pure HPX.out.below) fn (by omega) (by omega)).mono ?_
        rintro e wy ⟨⟨g9, f9, b9, hb9, rfl⟩, hby⟩
        obtain rfl : b9 = false := by
          cases b9 with
          | false => rfl
          | true => exact absurd (hb9.1 rfl) HNS.out
        have HBY := Lib.hid (HB.out.trans (hby.mono HB.out.size))
        clear hby hb9 hc0
        go_wp2
        refine ⟨⟨j + 1, by rw [HOUT.out], by go_num, by omega, HBY⟩, ?_⟩
        simp [intOf]; omega
      · obtain ⟨hat, hlk, hnk⟩ := pt_in HK8.out.env.ok HRL.out.st.lg hm HRL.out.gen hjl hin
        obtain ⟨X, hX⟩ := pt_file HK8.out.env.ok HRL.out.st.lg HRL.out.part (fs_apart hm) hjl hlk hnk
        obtain ⟨ff, hseg, hff⟩ := gen_zero HK8.out.env.ok HRL.out.gen _ hlk
        have hfn2 : fn.data.toList = segName ((0 : Nat) : Int) (ff : Int) := by rw [hfn, ← hnk, hseg]; rfl
        obtain ⟨sbk, sok, hso, sk1, sk2, hsbl⟩ := (HMS8.out.pure HB.out).at (ptAt l st.fs j) hlk
        cases hso
        rw [hseg] at sk1 sk2
        have hm0 := (cell_of_row _ _ 1 _ _ _ ((HB.out.block _ (lt_of_block HMC8.out)).trans HMC8.out)).trans (show (#[.int .i64 l.gen, .slice (some ⟨sbk, sok, none⟩) l.segs.length mc] : Array Value)[1]? = some (.slice (some ⟨sbk, sok, none⟩) l.segs.length mc) from rfl)
        have HAT := Lib.hid hat
        have HX := Lib.hid hX
        have HFN := Lib.hid hfn2
        obtain ⟨kk, hkk⟩ : ∃ kk, kk = ptAt l st.fs j := ⟨_, rfl⟩
        rw [← hkk] at hlk sk1 sk2 HAT HX ⊢
        clear hat hnk hX hseg hfn hfn2 hsg hm hfd hfp hin hkk
        go_wp2_with fail
        refine (named_ok wr (below_pow HPX.out.below HL.out.pow) (HL.out.pure HPX.out.below).mxl 0 ff (by decide) hff fn HFN.out).mono ?_
        rintro e wy ⟨rfl, hby⟩
        have hc1 := (hby.cell (p := ⟨fb, fo + j * 3 + 1, none⟩) (ltOfCell hc1)).trans hc1
        have hc2 := (hby.cell (p := ⟨fb, fo + j * 3 + 2, none⟩) (ltOfCell hc2)).trans hc2
        have hm0 := (hby.cell (p := ⟨mB, 1, none⟩) (ltOfCell hm0)).trans hm0
        have sk1 := (hby.cell (p := ⟨sbk, sok + kk * 2, none⟩) (ltOfCell sk1)).trans sk1
        have sk2 := (hby.cell (p := ⟨sbk, sok + kk * 2 + 1, none⟩) (ltOfCell sk2)).trans sk2
        have HBY := Lib.hid (HB.out.trans (hby.mono HB.out.size))
        clear hby hc0
        have hss : (fd ++ fp).size ≤ 1048576 := by
          have h1 := size_of_list HMF.out.1; have h2 := size_of_list HMF.out.2.1; have h3 := HMF.out.2.2
          rw [ByteArray.size_append]; omega
        have hsd : (fd ++ fp).data.toList = segBytes X.1 X.2 := by rw [bytes_append, HMF.out.1, HMF.out.2.1]; exact HX.out.all
        have HSC := Lib.hid (fun W => scan_whole W (fd ++ fp) X hss hsd HX.out.fr HX.out.low)
        have HSL := Lib.hid (show (fd ++ fp).size = (segBytes X.1 X.2).length from by rw [← size_toList, hsd])
        have hfdne := ltOfCell hc1
        have hsz1 : fd.size + fp.size ≤ 9223372036854775807 := by rw [ByteArray.size_append] at hss; omega
        have hsz2 : ¬ (9223372036854775807 < fd.size + fp.size) := by omega
        have hsz3 : (fd.size : Int) ≤ 8388608 := by rw [ByteArray.size_append] at hss; omega
        have hsz4 : (fp.size : Int) ≤ 8388608 := by rw [ByteArray.size_append] at hss; omega
        have hcat : ∀ W : World, (Op.stringOp .add fd fp).run Tryz.prog W = .ok (.string (fd ++ fp)) W := fun W => run_string_add_sum W fd fp hsz1
        clear hsd
        go_wp2_with fail
        -- pt:region
        refine wp_region_held_drew (S := (fun w' => Below wy.heap.size wy w')) (by kernel_rfl) (Below.refl _ _).drew (fun hHeld => ?_)
        refine wpAnyH_take (i := 0) (oi := _) (v := ?_) (by simp only [List.getElem?_toArray, List.getElem?_cons_zero]; rfl) (by kernel_rfl) (by kernel_rfl) (by kernel_rfl) (by exact fun _ _ _ h => h) (Or.inl ⟨by rfl, ?_⟩) (by assumption) ?_
        rotate_left
        · (intro w hSw; (try dsimp only at hSw); go_simp; try with_reducible rfl)
        simp only [Act.put, List.setIfInBounds_toArray, List.set_cons_zero, List.set_cons_succ]
        refine wpAnyH_take (i := 1) (oi := _) (v := ?_) (by simp only [List.getElem?_toArray, List.getElem?_cons_succ, List.getElem?_cons_zero]; rfl) (by kernel_rfl) (by kernel_rfl) (by kernel_rfl) (by exact fun _ _ _ h => h) (Or.inl ⟨by rfl, ?_⟩) (by assumption) ?_
        rotate_left
        · (intro w hSw; (try dsimp only at hSw); go_simp; try with_reducible rfl)
        simp only [Act.put, List.setIfInBounds_toArray, List.set_cons_zero, List.set_cons_succ]
        refine wpAnyH_take (i := 2) (oi := _) (v := ?_) (by simp only [List.getElem?_toArray, List.getElem?_cons_succ, List.getElem?_cons_zero]; rfl) (by kernel_rfl) (by kernel_rfl) (by kernel_rfl) (by exact fun _ _ _ h => h) (Or.inl ⟨by rfl, ?_⟩) (by assumption) ?_
        rotate_left
        · (intro w hSw; (try dsimp only at hSw); go_simp; try with_reducible rfl)
        simp only [Act.put, List.setIfInBounds_toArray, List.set_cons_zero, List.set_cons_succ]
        refine wpAnyH_take (i := 3) (oi := _) (v := ?_) (by simp only [List.getElem?_toArray, List.getElem?_cons_succ, List.getElem?_cons_zero]; rfl) (by kernel_rfl) (by kernel_rfl) (by kernel_rfl) (by exact fun _ _ _ h => h) (Or.inl ⟨by rfl, ?_⟩) (by assumption) ?_
        rotate_left
        · (intro w hSw; (try dsimp only at hSw); go_simp; try with_reducible rfl)
        simp only [Act.put, List.setIfInBounds_toArray, List.set_cons_zero, List.set_cons_succ]
        refine wpAnyH_take (i := 4) (oi := _) (v := ?_) (by simp only [List.getElem?_toArray, List.getElem?_cons_succ, List.getElem?_cons_zero]; rfl) (by kernel_rfl) (by kernel_rfl) (by kernel_rfl) (by exact fun _ _ _ h => h) (Or.inl ⟨by rfl, ?_⟩) (by assumption) ?_
        rotate_left
        · (intro w hSw; (try dsimp only at hSw); have hL1 := (hSw.cell (p := ⟨fb, fo + j * 3 + 1, none⟩) hfdne).trans hc1; go_simp; try with_reducible rfl)
        simp only [Act.put, List.setIfInBounds_toArray, List.set_cons_zero, List.set_cons_succ]
        refine wpAnyH_take (i := 5) (oi := _) (v := ?_) (by simp only [List.getElem?_toArray, List.getElem?_cons_succ, List.getElem?_cons_zero]; rfl) (by kernel_rfl) (by kernel_rfl) (by kernel_rfl) (by exact fun _ _ _ h => h) (Or.inl ⟨by rfl, ?_⟩) (by assumption) ?_
        rotate_left
        · (intro w hSw; (try dsimp only at hSw); go_simp; try with_reducible rfl)
        simp only [Act.put, List.setIfInBounds_toArray, List.set_cons_zero, List.set_cons_succ]
        refine wpAnyH_take (i := 6) (oi := _) (v := ?_) (by simp only [List.getElem?_toArray, List.getElem?_cons_succ, List.getElem?_cons_zero]; rfl) (by kernel_rfl) (by kernel_rfl) (by kernel_rfl) (by exact fun _ _ _ h => h) (Or.inl ⟨by rfl, ?_⟩) (by assumption) ?_
        rotate_left
        · (intro w hSw; (try dsimp only at hSw); go_simp; try with_reducible rfl)
        simp only [Act.put, List.setIfInBounds_toArray, List.set_cons_zero, List.set_cons_succ]
        refine wpAnyH_take (i := 7) (oi := _) (v := ?_) (by simp only [List.getElem?_toArray, List.getElem?_cons_succ, List.getElem?_cons_zero]; rfl) (by kernel_rfl) (by kernel_rfl) (by kernel_rfl) (by exact fun _ _ _ h => h) (Or.inl ⟨by rfl, ?_⟩) (by assumption) ?_
        rotate_left
        · (intro w hSw; (try dsimp only at hSw); go_simp; try with_reducible rfl)
        simp only [Act.put, List.setIfInBounds_toArray, List.set_cons_zero, List.set_cons_succ]
        refine wpAnyH_take (i := 8) (oi := _) (v := ?_) (by simp only [List.getElem?_toArray, List.getElem?_cons_succ, List.getElem?_cons_zero]; rfl) (by kernel_rfl) (by kernel_rfl) (by kernel_rfl) (by exact fun _ _ _ h => h) (Or.inl ⟨by rfl, ?_⟩) (by assumption) ?_
        rotate_left
        · (intro w hSw; (try dsimp only at hSw); go_simp; try with_reducible rfl)
        simp only [Act.put, List.setIfInBounds_toArray, List.set_cons_zero, List.set_cons_succ]
        refine wpAnyH_take (i := 9) (oi := _) (v := ?_) (by simp only [List.getElem?_toArray, List.getElem?_cons_succ, List.getElem?_cons_zero]; rfl) (by kernel_rfl) (by kernel_rfl) (by kernel_rfl) (by exact fun _ _ _ h => h) (Or.inl ⟨by rfl, ?_⟩) (by assumption) ?_
        rotate_left
        · (intro w hSw; (try dsimp only at hSw); have hL2 := (hSw.cell (p := ⟨fb, fo + j * 3 + 2, none⟩) hfdne).trans hc2; go_simp; try with_reducible rfl)
        simp only [Act.put, List.setIfInBounds_toArray, List.set_cons_zero, List.set_cons_succ]
        refine wpAnyH_take (i := 10) (oi := _) (v := ?_) (by simp only [List.getElem?_toArray, List.getElem?_cons_succ, List.getElem?_cons_zero]; rfl) (by kernel_rfl) (by kernel_rfl) (by kernel_rfl) (by exact fun _ _ _ h => h) (Or.inl ⟨by rfl, ?_⟩) (by assumption) ?_
        rotate_left
        · (intro w hSw; (try dsimp only at hSw); go_simp; try with_reducible rfl)
        simp only [Act.put, List.setIfInBounds_toArray, List.set_cons_zero, List.set_cons_succ]
        refine wpAnyH_ready (rs := [11, 15]) (by kernel_rfl) (by simp) ?_
        refine AllReadyH.cons (o := _) (by simp only [List.getElem?_toArray, List.getElem?_cons_succ, List.getElem?_cons_zero]; rfl) (fun K hK => ?_) (AllReadyH.cons (o := _) (by simp only [List.getElem?_toArray, List.getElem?_cons_succ, List.getElem?_cons_zero]; rfl) (fun K hK => ?_) AllReadyH.nil)
        · go_simp
          refine (HSC.out _).mono ?_
          rintro e wz ⟨⟨va, vc, rfl⟩, hbz⟩
          have hz := hHeld.trans (hbz.mono hHeld.size)
          clear hHeld
          refine hK.out _ _ hz (fun hHeld => ?_)
          clear hK K
          refine wpAnyH_take (i := 12) (oi := _) (v := ?_) (by simp only [List.getElem?_toArray, List.getElem?_cons_succ, List.getElem?_cons_zero]; rfl) (by kernel_rfl) (by kernel_rfl) (by kernel_rfl) (by exact fun _ _ _ h => h) (Or.inl ⟨by rfl, ?_⟩) (by assumption) ?_
          rotate_left
          · (intro w hSw; (try dsimp only at hSw); go_simp; try with_reducible rfl)
          simp only [Act.put, List.setIfInBounds_toArray, List.set_cons_zero, List.set_cons_succ]
          refine wpAnyH_take (i := 13) (oi := _) (v := ?_) (by simp only [List.getElem?_toArray, List.getElem?_cons_succ, List.getElem?_cons_zero]; rfl) (by kernel_rfl) (by kernel_rfl) (by kernel_rfl) (by exact fun _ _ _ h => h) (Or.inl ⟨by rfl, ?_⟩) (by assumption) ?_
          rotate_left
          · (intro w hSw; (try dsimp only at hSw); go_simp; try with_reducible rfl)
          simp only [Act.put, List.setIfInBounds_toArray, List.set_cons_zero, List.set_cons_succ]
          refine wpAnyH_take (i := 14) (oi := _) (v := ?_) (by simp only [List.getElem?_toArray, List.getElem?_cons_succ, List.getElem?_cons_zero]; rfl) (by kernel_rfl) (by kernel_rfl) (by kernel_rfl) (by exact fun _ _ _ h => h) (Or.inl ⟨by rfl, ?_⟩) (by assumption) ?_
          rotate_left
          · (intro w hSw; (try dsimp only at hSw); go_simp; try with_reducible rfl)
          simp only [Act.put, List.setIfInBounds_toArray, List.set_cons_zero, List.set_cons_succ]
          refine wpAnyH_ready (rs := [15]) (by kernel_rfl) (by simp) ?_
          refine AllReadyH.cons (o := _) (by simp only [List.getElem?_toArray, List.getElem?_cons_succ, List.getElem?_cons_zero]; rfl) (fun K hK => ?_) AllReadyH.nil
          go_simp
          refine hK.out _ _ (hHeld.alloc hHeld.size _) (fun hHeld => ?_)
          clear hK K
          refine wpAnyH_ready (rs := [16]) (by kernel_rfl) (by simp) ?_
          refine AllReadyH.cons (o := _) (by simp only [List.getElem?_toArray, List.getElem?_cons_succ, List.getElem?_cons_zero]; rfl) (fun K hK => ?_) AllReadyH.nil
          go_simp
          have hz3 := (hHeld.alloc hHeld.size (.cells #[.int .i64 (X.1 : Int), .slice va X.2.length vc, .int .i64 ((fd.size : Int) + (fp.size : Int)), .bool true] 72))
          have hz3 : Below wy.heap.size wy (wz.alloc (.cells #[.int .i64 (X.1 : Int), .slice va X.2.length vc, .int .i64 ((fd.size : Int) + (fp.size : Int)), .bool true] 72)) := hz.alloc hz.size _
          refine hK.out _ _ hz3 (fun hHeld => ?_)
          clear hK K hz3
          refine wpAnyH_take (i := 17) (oi := _) (v := ?_) (by simp only [List.getElem?_toArray, List.getElem?_cons_succ, List.getElem?_cons_zero]; rfl) (by kernel_rfl) (by kernel_rfl) (by kernel_rfl) (by exact fun _ _ _ h => h) (Or.inl ⟨by rfl, ?_⟩) (by assumption) ?_
          rotate_left
          · (intro w hSw; (try dsimp only at hSw); go_simp; try with_reducible rfl)
          simp only [Act.put, List.setIfInBounds_toArray, List.set_cons_zero, List.set_cons_succ]
          refine wpAnyH_done (by kernel_rfl) ?_ _
          obtain ⟨wv, hwv⟩ : ∃ wv, wv = wz.alloc (.cells #[.int .i64 (X.1 : Int), .slice va X.2.length vc, .int .i64 ((fd.size : Int) + (fp.size : Int)), .bool true] 72) := ⟨_, rfl⟩
          obtain ⟨xb, hxb⟩ : ∃ xb, xb = wz.heap.size := ⟨_, rfl⟩
          have hcx : wv.heap[xb]? = some (.cells #[.int .i64 (X.1 : Int), .slice va X.2.length vc, .int .i64 ((fd.size : Int) + (fp.size : Int)), .bool true] 72 (0, 0)) := by rw [hwv, hxb]; exact heap_alloc_new _ _
          have hbv : Below wy.heap.size wy wv := by rw [hwv]; exact hz.alloc hz.size _
          rw [← hwv, ← hxb]
          clear hwv hxb hz
          have HBV := Lib.hid (HBY.out.trans (hbv.mono HBY.out.size))
          have x1 := (cell_of_row _ _ 1 _ _ _ hcx).trans (show (#[.int .i64 (X.1 : Int), .slice va X.2.length vc, .int .i64 ((fd.size : Int) + (fp.size : Int)), .bool true] : Array Value)[1]? = some (.slice va X.2.length vc) from rfl)
          have x2 := (cell_of_row _ _ 2 _ _ _ hcx).trans (show (#[.int .i64 (X.1 : Int), .slice va X.2.length vc, .int .i64 ((fd.size : Int) + (fp.size : Int)), .bool true] : Array Value)[2]? = some (.int .i64 ((fd.size : Int) + (fp.size : Int))) from rfl)
          have x3 := (cell_of_row _ _ 3 _ _ _ hcx).trans (show (#[.int .i64 (X.1 : Int), .slice va X.2.length vc, .int .i64 ((fd.size : Int) + (fp.size : Int)), .bool true] : Array Value)[3]? = some (.bool true) from rfl)
          have y2 := (hbv.cell (p := ⟨fb, fo + j * 3 + 2, none⟩) (ltOfCell hc2)).trans hc2
          have ym := (hbv.cell (p := ⟨mB, 1, none⟩) (ltOfCell hm0)).trans hm0
          have ys1 := (hbv.cell (p := ⟨sbk, sok + kk * 2, none⟩) (ltOfCell sk1)).trans sk1
          have ys2 := (hbv.cell (p := ⟨sbk, sok + kk * 2 + 1, none⟩) (ltOfCell sk2)).trans sk2
          have yc := (cell_of_row _ _ 0 _ _ _ ((HBV.out.block _ (lt_of_block HK8.out.cfg)).trans HK8.out.cfg)).trans (show (#[.int .i64 x, .int .i64 y, .int .u8 z] : Array Value)[0]? = some (.int .i64 x) from rfl)
          have hlkI : (kk : Int) < (l.segs.length : Int) := by omega
          have hlkB : decide ((l.segs.length : Int) ≤ (kk : Int)) = false := by simp; omega
          have hlkC : decide (l.segs.length ≤ kk) = false := by simp; omega
          clear hcx hbv hHeld hc1 hc2 hm0 sk1 sk2
          by_cases h1 : X.2.length ≤ 1
          all_goals
            by_cases hlast : kk + 1 < l.segs.length
          all_goals
            first
              | (have hd1 : decide ((1 : Int) < (X.2.length : Int)) = false := by simp; omega
                 have hd1b : decide (1 < X.2.length) = false := by simp; omega)
              | (have hd1 : decide ((1 : Int) < (X.2.length : Int)) = true := by simp; omega
                 have hd1b : decide (1 < X.2.length) = true := by simp; omega
                 have hd2 : decide ((x : Int) < (fd.size : Int) + (fp.size : Int)) = false := by
                   have q1 := HSL.out
                   rw [ByteArray.size_append] at q1
                   have q2 := HX.out.part
                   rw [HRL.out.cfg, HCF.out.2] at q2
                   simp only at q2
                   simp; omega
                 have hd2b : ¬ (x : Int) < (fd.size : Int) + (fp.size : Int) := by simpa using hd2)
          all_goals
            first
              | (have hl1 : decide ((kk : Int) < (l.segs.length : Int) - 1) = false := by simp; omega
                 have hl2 : ¬ (kk : Int) < (l.segs.length : Int) - 1 := by omega)
              | (have hl1 : decide ((kk : Int) < (l.segs.length : Int) - 1) = true := by simp; omega
                 have hl2 : (kk : Int) < (l.segs.length : Int) - 1 := by omega
                 have hmid := HX.out.mid (by first | exact hlast | omega)
                 have hE1 : fp.toList.isEmpty = true := by rw [ByteArray.toList_eq, HMF.out.2.1, hmid.1]; rfl
                 have hX0 : X.2.length ≠ 0 := fun e => hmid.2 (List.eq_nil_of_length_eq_zero e)
                 have hX1 : ((X.2.length : Int) == 0) = false := by simp; exact hmid.2
                 clear hmid)
          all_goals
            go_wp2
            refine ⟨⟨j + 1, by rw [HAT.out]; go_num, by go_num, by omega, HBV⟩, ?_⟩
            simp [intOf]; omega
        · go_simp
          refine hK.out _ _ (hHeld.alloc hHeld.size _) (fun hHeld => ?_)
          clear hK K
          refine wpAnyH_ready (rs := [11]) (by kernel_rfl) (by simp) ?_
          refine AllReadyH.cons (o := _) (by simp only [List.getElem?_toArray, List.getElem?_cons_succ, List.getElem?_cons_zero]; rfl) (fun K hK => ?_) AllReadyH.nil
          go_simp
          refine (HSC.out _).mono ?_
          rintro e wz ⟨⟨va, vc, rfl⟩, hbz⟩
          have hz := hHeld.trans (hbz.mono hHeld.size)
          have bx := (hbz.block wy.heap.size (by simp)).trans (alloc_at_top _ _ rfl)
          have n0 := cell_of_row _ _ 0 _ _ _ bx
          have n1 := cell_of_row _ _ 1 _ _ _ bx
          have n2 := cell_of_row _ _ 2 _ _ _ bx
          have n3 := cell_of_row _ _ 3 _ _ _ bx
          have zf : ∀ j : Nat, World.frozen? wz ⟨wy.heap.size, j, none⟩ = false := fun j => frozen_of_row _ _ _ _ _ bx
          simp at n0 n1 n2 n3
          have HBX := Lib.hid bx
          clear hHeld bx
          refine hK.out _ _ hz (fun hHeld => ?_)
          clear hK K
          refine wpAnyH_take (i := 12) (oi := _) (v := ?_) (by simp only [List.getElem?_toArray, List.getElem?_cons_succ, List.getElem?_cons_zero]; rfl) (by kernel_rfl) (by kernel_rfl) (by kernel_rfl) (by exact fun _ _ _ h => h) (Or.inl ⟨by rfl, ?_⟩) (by assumption) ?_
          rotate_left
          · (intro w hSw; (try dsimp only at hSw); go_simp; try with_reducible rfl)
          simp only [Act.put, List.setIfInBounds_toArray, List.set_cons_zero, List.set_cons_succ]
          refine wpAnyH_take (i := 13) (oi := _) (v := ?_) (by simp only [List.getElem?_toArray, List.getElem?_cons_succ, List.getElem?_cons_zero]; rfl) (by kernel_rfl) (by kernel_rfl) (by kernel_rfl) (by exact fun _ _ _ h => h) (Or.inl ⟨by rfl, ?_⟩) (by assumption) ?_
          rotate_left
          · (intro w hSw; (try dsimp only at hSw); go_simp; try with_reducible rfl)
          simp only [Act.put, List.setIfInBounds_toArray, List.set_cons_zero, List.set_cons_succ]
          refine wpAnyH_take (i := 14) (oi := _) (v := ?_) (by simp only [List.getElem?_toArray, List.getElem?_cons_succ, List.getElem?_cons_zero]; rfl) (by kernel_rfl) (by kernel_rfl) (by kernel_rfl) (by exact fun _ _ _ h => h) (Or.inl ⟨by rfl, ?_⟩) (by assumption) ?_
          rotate_left
          · (intro w hSw; (try dsimp only at hSw); go_simp; try with_reducible rfl)
          simp only [Act.put, List.setIfInBounds_toArray, List.set_cons_zero, List.set_cons_succ]
          refine wpAnyH_ready (rs := [16]) (by kernel_rfl) (by simp) ?_
          refine AllReadyH.cons (o := _) (by simp only [List.getElem?_toArray, List.getElem?_cons_succ, List.getElem?_cons_zero]; rfl) (fun K hK => ?_) AllReadyH.nil
          go_simp
          have hz3 : Below wy.heap.size wy ((((wz.setCell ⟨wy.heap.size, 0, none⟩ (.int .i64 (X.1 : Int))).setCell ⟨wy.heap.size, 1, none⟩ (.slice va X.2.length vc)).setCell ⟨wy.heap.size, 2, none⟩ (.int .i64 ((fd.size : Int) + (fp.size : Int)))).setCell ⟨wy.heap.size, 3, none⟩ (.bool true)) := (((hz.setCell (Nat.le_refl _) _).setCell (Nat.le_refl _) _).setCell (Nat.le_refl _) _).setCell (Nat.le_refl _) _
          refine hK.out _ _ hz3 (fun hHeld => ?_)
          clear hK K
          refine wpAnyH_take (i := 17) (oi := _) (v := ?_) (by simp only [List.getElem?_toArray, List.getElem?_cons_succ, List.getElem?_cons_zero]; rfl) (by kernel_rfl) (by kernel_rfl) (by kernel_rfl) (by exact fun _ _ _ h => h) (Or.inl ⟨by rfl, ?_⟩) (by assumption) ?_
          rotate_left
          · (intro w hSw; (try dsimp only at hSw); go_simp; try with_reducible rfl)
          simp only [Act.put, List.setIfInBounds_toArray, List.set_cons_zero, List.set_cons_succ]
          refine wpAnyH_done (by kernel_rfl) ?_ _
          obtain ⟨wv, hwv⟩ : ∃ wv, wv = ((((wz.setCell ⟨wy.heap.size, 0, none⟩ (.int .i64 (X.1 : Int))).setCell ⟨wy.heap.size, 1, none⟩ (.slice va X.2.length vc)).setCell ⟨wy.heap.size, 2, none⟩ (.int .i64 ((fd.size : Int) + (fp.size : Int)))).setCell ⟨wy.heap.size, 3, none⟩ (.bool true)) := ⟨_, rfl⟩
          obtain ⟨xb, hxb⟩ : ∃ xb, xb = wy.heap.size := ⟨_, rfl⟩
          have hcx : wv.heap[xb]? = some (.cells #[.int .i64 (X.1 : Int), .slice va X.2.length vc, .int .i64 ((fd.size : Int) + (fp.size : Int)), .bool true] 72 (0, 0)) := by
            rw [hwv, hxb]
            exact heap_setCell_same _ _ 3 _ _ _ (heap_setCell_same _ _ 2 _ _ _ (heap_setCell_same _ _ 1 _ _ _ (heap_setCell_same _ _ 0 _ _ _ HBX.out)))
          have hbv : Below wy.heap.size wy wv := by rw [hwv]; exact hz3
          rw [← hwv, ← hxb]
          clear hwv hxb hz hz3 n0 n1 n2 n3 zf HBX
          have HBV := Lib.hid (HBY.out.trans (hbv.mono HBY.out.size))
          have x1 := (cell_of_row _ _ 1 _ _ _ hcx).trans (show (#[.int .i64 (X.1 : Int), .slice va X.2.length vc, .int .i64 ((fd.size : Int) + (fp.size : Int)), .bool true] : Array Value)[1]? = some (.slice va X.2.length vc) from rfl)
          have x2 := (cell_of_row _ _ 2 _ _ _ hcx).trans (show (#[.int .i64 (X.1 : Int), .slice va X.2.length vc, .int .i64 ((fd.size : Int) + (fp.size : Int)), .bool true] : Array Value)[2]? = some (.int .i64 ((fd.size : Int) + (fp.size : Int))) from rfl)
          have x3 := (cell_of_row _ _ 3 _ _ _ hcx).trans (show (#[.int .i64 (X.1 : Int), .slice va X.2.length vc, .int .i64 ((fd.size : Int) + (fp.size : Int)), .bool true] : Array Value)[3]? = some (.bool true) from rfl)
          have y2 := (hbv.cell (p := ⟨fb, fo + j * 3 + 2, none⟩) (ltOfCell hc2)).trans hc2
          have ym := (hbv.cell (p := ⟨mB, 1, none⟩) (ltOfCell hm0)).trans hm0
          have ys1 := (hbv.cell (p := ⟨sbk, sok + kk * 2, none⟩) (ltOfCell sk1)).trans sk1
          have ys2 := (hbv.cell (p := ⟨sbk, sok + kk * 2 + 1, none⟩) (ltOfCell sk2)).trans sk2
          have yc := (cell_of_row _ _ 0 _ _ _ ((HBV.out.block _ (lt_of_block HK8.out.cfg)).trans HK8.out.cfg)).trans (show (#[.int .i64 x, .int .i64 y, .int .u8 z] : Array Value)[0]? = some (.int .i64 x) from rfl)
          have hlkI : (kk : Int) < (l.segs.length : Int) := by omega
          have hlkB : decide ((l.segs.length : Int) ≤ (kk : Int)) = false := by simp; omega
          have hlkC : decide (l.segs.length ≤ kk) = false := by simp; omega
          clear hcx hbv hHeld hc1 hc2 hm0 sk1 sk2
          by_cases h1 : X.2.length ≤ 1
          all_goals
            by_cases hlast : kk + 1 < l.segs.length
          all_goals
            first
              | (have hd1 : decide ((1 : Int) < (X.2.length : Int)) = false := by simp; omega
                 have hd1b : decide (1 < X.2.length) = false := by simp; omega)
              | (have hd1 : decide ((1 : Int) < (X.2.length : Int)) = true := by simp; omega
                 have hd1b : decide (1 < X.2.length) = true := by simp; omega
                 have hd2 : decide ((x : Int) < (fd.size : Int) + (fp.size : Int)) = false := by
                   have q1 := HSL.out
                   rw [ByteArray.size_append] at q1
                   have q2 := HX.out.part
                   rw [HRL.out.cfg, HCF.out.2] at q2
                   simp only at q2
                   simp; omega
                 have hd2b : ¬ (x : Int) < (fd.size : Int) + (fp.size : Int) := by simpa using hd2)
          all_goals
            first
              | (have hl1 : decide ((kk : Int) < (l.segs.length : Int) - 1) = false := by simp; omega
                 have hl2 : ¬ (kk : Int) < (l.segs.length : Int) - 1 := by omega)
              | (have hl1 : decide ((kk : Int) < (l.segs.length : Int) - 1) = true := by simp; omega
                 have hl2 : (kk : Int) < (l.segs.length : Int) - 1 := by omega
                 have hmid := HX.out.mid (by first | exact hlast | omega)
                 have hE1 : fp.toList.isEmpty = true := by rw [ByteArray.toList_eq, HMF.out.2.1, hmid.1]; rfl
                 have hX0 : X.2.length ≠ 0 := fun e => hmid.2 (List.eq_nil_of_length_eq_zero e)
                 have hX1 : ((X.2.length : Int) == 0) = false := by simp; exact hmid.2
                 clear hmid)
          all_goals
            go_wp2
            refine ⟨⟨j + 1, by rw [HAT.out]; go_num, by go_num, by omega, HBV⟩, ?_⟩
            simp [intOf]; omega
        -- end:region
end Go.Proofs.YtcdjckdbcffgdaaGreatDoor
