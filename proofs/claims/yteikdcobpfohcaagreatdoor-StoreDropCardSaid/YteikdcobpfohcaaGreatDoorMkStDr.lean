/- The walk of the law StoreDrop. -/
import Derived.Test.YteikdcobpfohcaaGreatDoorMkAwW
import Derived.Test.YteikdcobpfohcaaGreatDoorMkMny27
import Derived.Test.YteikdcobpfohcaaGreatDoorMkDkF
import Derived.Test.YteikdcobpfohcaaGreatDoorMFl
import Derived.Test.YteikdcobpfohcaaGreatDoorMFk
import Derived.BigQuiet
import Derived.Laws.StructEq
namespace Go.Proofs.YteikdcobpfohcaaGreatDoor
open Go.RowKit Go.Maps Go.Sort

theorem goes_snap {f : FileS} {r : Value} (but : Int) (h : snapIs f.name r) : ∃ (n : Int) (bo : Bool), r = .tuple #[.int .i64 n, .bool bo] ∧ (goes but f = true ↔ bo = true ∧ n ≠ but) := by
  rcases h with ⟨n, hn, hs, rfl⟩ | ⟨hs, rfl⟩
  · refine ⟨n, true, rfl, ?_⟩
    unfold goes
    rw [hs, snapNum_name n hn]
    simp
  · refine ⟨0, false, rfl, ?_⟩
    unfold goes
    rw [snapNum_none.2 hs]
    simp
noncomputable def keptL (but : Int) (l : Fs) : Fs := l.filter fun f => !(goes but f)
theorem kept_goes {but : Int} {l : Fs} {i : Nat} (hi : i < l.length) (h : goes but l[i] = true) : (keptL but (l.take (i + 1))).length = (keptL but (l.take i)).length := by
  unfold keptL
  rw [List.take_add_one, List.getElem?_eq_getElem hi, List.filter_append, List.length_append]
  simp [h]
theorem kept_stays {but : Int} {l : Fs} {i : Nat} (hi : i < l.length) (h : goes but l[i] = false) : (keptL but (l.take (i + 1))).length = (keptL but (l.take i)).length + 1 := by
  unfold keptL
  rw [List.take_add_one, List.getElem?_eq_getElem hi, List.filter_append, List.length_append]
  simp [h]
theorem kept_at {but : Int} {l : Fs} {i : Nat} (hi : i < l.length) (h : goes but l[i] = false) : ∃ hk : (keptL but (l.take i)).length < (keptL but l).length, (keptL but l)[(keptL but (l.take i)).length] = l[i] := by
  have e : keptL but l = keptL but (l.take i) ++ l[i] :: keptL but (l.drop (i + 1)) := by
    unfold keptL
    conv => lhs; rw [← List.take_append_drop i l, List.drop_eq_getElem_cons hi, List.filter_append, List.filter_cons]
    simp [h]
  have hk : (keptL but (l.take i)).length < (keptL but l).length := by rw [e, List.length_append, List.length_cons]; omega
  refine ⟨hk, ?_⟩
  have : (keptL but l)[(keptL but (l.take i)).length]? = some l[i] := by
    conv => lhs; rw [e]
    rw [List.getElem?_append_right (Nat.le_refl _), Nat.sub_self]; rfl
  rw [List.getElem?_eq_getElem hk] at this
  exact Option.some.inj this
theorem kept_le (but : Int) (l : Fs) : (keptL but l).length ≤ l.length := List.length_filter_le _ _
theorem bytes_same {x y : ByteArray} {l : List UInt8} (h1 : x.data.toList = l) (h2 : y.data.toList = l) : x = y := by
  cases x; cases y; simp only [ByteArray.mk.injEq]; exact Array.toList_inj.1 (h1.trans h2.symm)
theorem apart_of_ok {fs : Fs} (h : FsOk fs) : Apart fs := h.sorted.imp (fun h => bytesBefore_ne h)

set_option maxRecDepth 100000 in
set_option maxHeartbeats 4000000 in
theorem storeDrop_any (w : World) (hl : Libz w) (sv : Value) (l : Fs) (hfs : FilesAt w sv l) (hlen : l.length ≤ 4398046511104) (hsz : ∀ f ∈ l, f.name.length ≤ 140737488355328 ∧ f.firm.length ≤ 140737488355328 ∧ f.pend.length ≤ 140737488355328) (but : Int) :
    Calls Tryz.prog 4 #[sv, .int .i64 but] w fun e w' => e = .returned (.bool true) ∧ Below w.heap.size w w' := by
  have HL := Lib.hid hl
  have HFS := Lib.hid hfs
  have HSZ := Lib.hid hsz
  clear hl hfs hsz
  go_enter Tryz.func4, Tryz.ntmps4
  go_wp2_with fail
  refine (many_any _ sv l HFS.out hlen).mono ?_
  rintro e w1 ⟨⟨bo, rfl⟩, hb1⟩
  have HB1 := Lib.hid hb1
  clear hb1
  cases bo
  case true =>
    go_wp2_with fail
    refine (awake_any w1 (HL.out.pure HB1.out)).mono ?_
    rintro e w2 ⟨rfl, hb2⟩
    have HB2 := Lib.hid (below_on HB1.out hb2)
    clear hb2 HB1
    go_wp2
    go_ret
    exact ⟨rfl, HB2.out⟩
  case false =>
    go_wp2_with fail
    refine (awake_any w1 (HL.out.pure HB1.out)).mono ?_
    rintro e w2 ⟨rfl, hb2⟩
    have HB2 := Lib.hid (below_on HB1.out hb2)
    clear hb2 HB1
    go_wp2_with fail
    refine (dk_load w2 1048576 sv l (HFS.out.pure HB2.out) hlen HSZ.out (by omega)).mono ?_
    rintro e w3 ⟨hb3, h3⟩
    have HB3 := Lib.hid (below_on HB2.out hb3)
    rcases load_cases 1048576 l with ⟨c, hc0, hc1, hc⟩ | hc
    · rw [hc] at h3
      subst h3
      have hcn : (c != 0) = true := by simpa using hc1
      clear hc hb3
      go_wp2
      go_ret
      exact ⟨rfl, HB3.out⟩
    · rw [hc] at h3
      obtain ⟨p, b, hp, hbk, rfl, hd⟩ := h3
      have o3 : Own27 w w3 p b ⟨l, 1048576, -1, false⟩ := ⟨hd, by have := HB2.out.size; omega, by have := HB2.out.size; omega, HB3.out⟩
      have O3 := Lib.hid o3
      have hok := hd.ok.fs
      have HOK := Lib.hid hok
      have hfew := hok.few
      have HAP := Lib.hid (apart_of_ok hok)
      have HDR := Lib.hid (drop_on (st := ⟨l, 1048576, -1, false⟩) ⟨rfl, rfl⟩ HAP.out but)
      clear hc hb3 hd hok o3 HB2 HB3
      go_wp2_with fail
      refine (dk_files w3 p b _ O3.out.dk).mono ?_
      rintro e w4 ⟨bv, rfl, ho4, hn4, hb4⟩
      have O4 := Lib.hid (O3.out.pure hb4)
      have F4 := Lib.hid (show FilesAt w4 bv l from ho4.at)
      have hfar : ∀ g, bv.ownBlock = some g → ¬ (g = p ∨ g = b) := fun g hg e => by
        have h1 := hn4 g hg
        have h2 := O3.out.dk.lt
        have h3 := O3.out.dk.own.lt
        rcases e with rfl | rfl <;> omega
      have HFAR := Lib.hid hfar
      clear ho4 hn4 hb4 O3 hfar
      go_wp2_with fail
      refine (st_drop w4 (O4.out.lz HL.out).1 p b _ O4.out.dk (O4.out.lz HL.out).2 but).mono ?_
      rintro e w5 ⟨rfl, hd5, hf5⟩
      rw [HDR.out] at hd5 ⊢
      have O5 := Lib.hid (show Own27 w w5 p b ⟨keptL but l, 1048576, -1, false⟩ from O4.out.op hd5 hf5)
      have F5 := Lib.hid (F4.out.kept hf5 HFAR.out)
      clear hd5 hf5 O4 F4 HFAR
      go_wp2_with fail
      refine (dk_files w5 p b _ O5.out.dk).mono ?_
      rintro e w6 ⟨av, rfl, ho6, hn6, hb6⟩
      have O6 := Lib.hid (O5.out.pure hb6)
      have F6 := Lib.hid (F5.out.pure hb6)
      have A6 := Lib.hid (show FilesAt w6 av (keptL but l) from ho6.at)
      obtain ⟨ba, bc, hbv⟩ := F6.out.shape
      obtain ⟨aa, ac, hav⟩ := A6.out.shape
      subst hbv hav
      have hkl := kept_le but l
      clear ho6 hn6 hb6 O5 F5
      go_wp2_with fail
      go_loopw [9, 10] (fun k i wr => ∃ j : Nat, i = .int .i64 (j : Int) ∧ j ≤ l.length ∧ k = .int .i64 (((keptL but (l.take j)).length : Nat) : Int) ∧ Hid (Below w6.heap.size w6 wr)) (fun _ i _ => l.length - (intOf i).toNat)
      case atStart => exact ⟨0, rfl, by omega, rfl, Lib.hid (Below.refl _ _)⟩
      case round =>
        obtain ⟨j, rfl, hj, rfl, HB⟩ := hrel
        have hkj : (keptL but (l.take j)).length ≤ l.length := Nat.le_trans (kept_le _ _) (by rw [List.length_take]; omega)
        by_cases hlt : j < l.length
        · obtain ⟨fb, fo, rfl, hfl, x, y, z, e1, e2, e3, c1, c2, c3⟩ := (F6.out.pure HB.out).at j hlt
          have hnm : x.size ≤ 281474976710656 := by have := (HSZ.out l[j] (List.getElem_mem hlt)).1; rw [size_of_list e1]; omega
          have E1 := Lib.hid e1
          have E2 := Lib.hid e2
          have E3 := Lib.hid e3
          clear e1 e2 e3
          go_wp2_with fail
          refine (snamed_any wr ((O6.out.lz HL.out).1.pure HB.out) x hnm).mono ?_
          rintro e wn ⟨⟨r, hr, rfl⟩, hbn⟩
          rw [E1.out] at hr
          obtain ⟨n, bo, rfl, hg⟩ := goes_snap but hr
          have HBn := Lib.hid (below_on HB.out hbn)
          have c1 : wn.cell? ⟨fb, fo + j * 3, none⟩ = some (.string x) := by rw [hbn.cell hfl]; exact c1
          have c2 : wn.cell? ⟨fb, fo + j * 3 + 1, none⟩ = some (.string y) := by rw [hbn.cell hfl]; exact c2
          have c3 : wn.cell? ⟨fb, fo + j * 3 + 2, none⟩ = some (.string z) := by rw [hbn.cell hfl]; exact c3
          clear hr hbn HB
          cases hgo : goes but l[j]
          · have hno : ¬ (bo = true ∧ n ≠ but) := fun h => by rw [hg.2 h] at hgo; cases hgo
            obtain ⟨hk, hat⟩ := kept_at hlt hgo
            obtain ⟨gb, go_, rfl, hgl, x', y', z', e1', e2', e3', d1, d2, d3⟩ := (A6.out.pure HBn.out).at _ hk
            rw [hat] at e1' e2' e3'
            obtain rfl := bytes_same E1.out e1'
            obtain rfl := bytes_same E2.out e2'
            obtain rfl := bytes_same E3.out e3'
            have hst := kept_stays hlt hgo
            obtain ⟨kk, hkk⟩ : ∃ kk, kk = (keptL but (l.take j)).length := ⟨_, rfl⟩
            rw [← hkk] at hk hkj d1 d2 d3 hst ⊢
            have HST := Lib.hid hst
            clear hst hat e1' e2' e3' hkk hg hgo
            cases bo
            · go_wp2_with fail
              go_quiet (fail)
              go_wp2_with fail
              go_roundw
              case rel => exact ⟨j + 1, by go_num, by omega, by rw [HST.out]; go_num, Lib.hid (below_on HBn.out (below_drewN _ _))⟩
              case measure => simp [intOf]; omega
            · obtain rfl : n = but := Decidable.byContradiction fun h => hno ⟨rfl, h⟩
              clear hno
              go_wp2_with fail
              go_quiet (fail)
              go_wp2_with fail
              go_roundw
              case rel => exact ⟨j + 1, by go_num, by omega, by rw [HST.out]; go_num, Lib.hid (below_on HBn.out (below_drewN _ _))⟩
              case measure => simp [intOf]; omega
          · obtain ⟨rfl, hne⟩ := hg.1 hgo
            have HST := Lib.hid (kept_goes hlt hgo)
            clear hg hgo
            go_wp2_with fail
            go_roundw
            case rel => exact ⟨j + 1, by go_num, by omega, by rw [HST.out], HBn⟩
            case measure => simp [intOf]; omega
        · obtain rfl : j = l.length := by omega
          rw [List.take_length] at hkj ⊢
          have O7 := Lib.hid (O6.out.pure HB.out)
          clear O6 F6 A6 HB
          go_wp2_with fail
          refine (st_list wr (O7.out.lz HL.out).1 p b _ O7.out.dk).mono ?_
          rintro e w8 ⟨hb8, h8⟩
          rw [if_neg (by simp)] at h8
          obtain ⟨v, rfl, hown⟩ := h8
          have O8 := Lib.hid (O7.out.pure hb8)
          obtain ⟨ga, gc, rfl, hrow⟩ := nums_at hown
          have hnd := nums_drop HAP.out but
          rw [show ((⟨keptL but l, 1048576, -1, false⟩ : DkSt).fs) = l.filter (fun f => !(goes but f)) from rfl] at hrow ⊢
          generalize snapNums ((l.filter fun f => !(goes but f)).map (·.name)) = ns at hnd hrow ⊢
          have HDR2 := Lib.hid (show dkDrop ⟨keptL but l, 1048576, -1, false⟩ but = (⟨keptL but l, 1048576, -1, false⟩, 0) from by
            rw [drop_on (st := ⟨keptL but l, 1048576, -1, false⟩) ⟨rfl, rfl⟩ (List.Pairwise.filter _ HAP.out) but]
            show ((⟨(l.filter fun f => !(goes but f)).filter (fun f => !(goes but f)), 1048576, -1, false⟩ : DkSt), (0 : Int)) = _
            rw [drop_twice]; rfl)
          clear hb8 hown O7 HDR
          rcases hnd with rfl | ⟨n, hn, rfl⟩
          · go_wp2_with fail
            refine (dk_copy w8 p b _ O8.out.dk).mono ?_
            rintro e w9 ⟨hb9, q, c, hq, hc, rfl, hdq⟩
            have O9 := Lib.hid (O8.out.pure hb9)
            have hpb := O8.out.dk.lt
            have hbb := O8.out.dk.own.lt
            have HQ := Lib.hid hdq
            have hqp : ¬ (q = p ∨ q = b) := by omega
            have hcp : ¬ (c = p ∨ c = b) := by omega
            clear hb9 hdq O8 hpb hbb
            go_wp2_with fail
            refine (st_drop w9 (O9.out.lz HL.out).1 p b _ O9.out.dk (O9.out.lz HL.out).2 but).mono ?_
            rintro e w10 ⟨rfl, hd10, hf10⟩
            rw [HDR2.out] at hd10 ⊢
            have O10 := Lib.hid (O9.out.op hd10 hf10)
            have HQ10 := Lib.hid (HQ.out.kept hf10 hqp hcp)
            clear hd10 hf10 O9 HQ
            go_wp2_with fail
            refine (dk_same w10 q c p b _ HQ10.out O10.out.dk).mono ?_
            rintro e w11 ⟨rfl, hb11⟩
            have HF := Lib.hid (below_on O10.out.below hb11)
            clear hb11 O10 HQ10
            go_wp2
            go_ret
            exact ⟨rfl, HF.out⟩
          · obtain ⟨g0, rfl, _, c0⟩ := hrow 0 (by simp)
            have c0 : w8.cell? ⟨g0, 0, none⟩ = some (.int .i64 but) := by rw [← hn]; exact c0
            go_wp2_with fail
            refine (dk_copy w8 p b _ O8.out.dk).mono ?_
            rintro e w9 ⟨hb9, q, c, hq, hc, rfl, hdq⟩
            have O9 := Lib.hid (O8.out.pure hb9)
            have hpb := O8.out.dk.lt
            have hbb := O8.out.dk.own.lt
            have HQ := Lib.hid hdq
            have hqp : ¬ (q = p ∨ q = b) := by omega
            have hcp : ¬ (c = p ∨ c = b) := by omega
            clear hb9 hdq O8 hpb hbb
            go_wp2_with fail
            refine (st_drop w9 (O9.out.lz HL.out).1 p b _ O9.out.dk (O9.out.lz HL.out).2 but).mono ?_
            rintro e w10 ⟨rfl, hd10, hf10⟩
            rw [HDR2.out] at hd10 ⊢
            have O10 := Lib.hid (O9.out.op hd10 hf10)
            have HQ10 := Lib.hid (HQ.out.kept hf10 hqp hcp)
            clear hd10 hf10 O9 HQ
            go_wp2_with fail
            refine (dk_same w10 q c p b _ HQ10.out O10.out.dk).mono ?_
            rintro e w11 ⟨rfl, hb11⟩
            have HF := Lib.hid (below_on O10.out.below hb11)
            clear hb11 O10 HQ10
            go_wp2
            go_ret
            exact ⟨rfl, HF.out⟩
end Go.Proofs.YteikdcobpfohcaaGreatDoor
