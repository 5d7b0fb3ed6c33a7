/- Init's way through. -/
import Derived.Test.YtcdjckdbcffgdaaGreatDoorMBc
import Derived.Test.YtcdjckdbcffgdaaGreatDoorMAl
namespace Go.Proofs.YtcdjckdbcffgdaaGreatDoor
open Go.RowKit

set_option maxRecDepth 100000 in
set_option maxHeartbeats 4000000 in
theorem init_go (w : World) (hp : Pow w) (p b : Nat) (st : DkSt) (hd : IsDk w p b st) (q : Nat) (hq : q ≤ 1048576) (c : Cfg) (h0 : 0 ≤ c.v) (h1 : c.v ≤ 255) (hc : cfgOk c = true) (hdk : st.dark = false) (hno : (fsGet st.fs fileN).isSome = false) :
    Calls Tryz.prog 9 #[.pointer (some ⟨p, 0, none⟩), .int .i64 (q : Int), .agg #[.int .i64 c.ss, .int .i64 c.ev, .int .u8 c.v]] w fun e w' => InitPost p b (lgInit st (q : Int) c) w e w' := by
  have hn : numberB (q : Int) = true := by unfold numberB; simp; omega
  have hn' := hn
  have HDK := Lib.hid hdk
  have HNO := Lib.hid hno
  have HP := Lib.hid hp
  clear hdk hno hp
  have HD := Lib.hid hd
  have hpl := hd.lt
  have hbl := hd.own.lt
  clear hd
  go_enter Tryz.func9, Tryz.ntmps9
  go_wp2_with fail
  refine (Header_any (q : Int) _).mono ?_
  rintro e w1 ⟨⟨r, hr, rfl⟩, hb1⟩
  have hs1 := hb1.size
  simp at hs1
  have HB := Lib.hid ((box2_below w (.cells #[.pointer (some ⟨p, 0, none⟩)] 26) (.cells #[.int .i64 c.ss, .int .i64 c.ev, .int .u8 c.v] 23)).trans (hb1.mono (by simp; omega)))
  have k0 : w1.cell? ⟨w.heap.size, 0, none⟩ = some (.pointer (some ⟨p, 0, none⟩)) := by rw [hb1.cell (by simp; omega), World.cell?_alloc_past _ _ _ (by simp), World.cell?_alloc_at _ _ _ _ rfl]; rfl
  have kc : ∀ j, w1.cell? ⟨w.heap.size + 1, j, none⟩ = (#[.int .i64 c.ss, .int .i64 c.ev, .int .u8 c.v] : Array Value)[j]? := fun j => by rw [hb1.cell (by simp), World.cell?_alloc_at _ _ _ _ (by simp)]
  have k1 := kc 0
  have k2 := kc 1
  have k3 := kc 2
  simp at k1 k2 k3
  have HR0 := Lib.hid hr
  clear hb1 hr kc
  rw [hdF_code, hn]
  have HC := Lib.hid hc
  clear hc hn
  simp only [if_true]
  go_wp2_with (go_at_call 20; refine (mayConfig_any _ c h0 h1).mono ?_; rintro e w2 ⟨rfl, hb2⟩; rw [HC.out]; have HB2 := Lib.hid (HB.out.trans (hb2.mono HB.out.size)); have hs2 := hb2.size; have m0 := (hb2.cell (p := ⟨w.heap.size, 0, none⟩) (show w.heap.size < w1.heap.size by omega)).trans k0; have m1 := (hb2.cell (p := ⟨w.heap.size + 1, 0, none⟩) (show w.heap.size + 1 < w1.heap.size by omega)).trans k1; have m2 := (hb2.cell (p := ⟨w.heap.size + 1, 1, none⟩) (show w.heap.size + 1 < w1.heap.size by omega)).trans k2; have m3 := (hb2.cell (p := ⟨w.heap.size + 1, 2, none⟩) (show w.heap.size + 1 < w1.heap.size by omega)).trans k3; clear hb2)
  refine (dk_list _ p b st (HD.out.pure HB2.out)).mono ?_
  rintro e w3 ⟨hb3, hpost⟩
  have HB3 := Lib.hid (HB2.out.trans (hb3.mono HB2.out.size))
  have hs3 := hb3.size
  have n0 := (hb3.cell (p := ⟨w.heap.size, 0, none⟩) (show w.heap.size < w2.heap.size by omega)).trans m0
  have n1 := (hb3.cell (p := ⟨w.heap.size + 1, 0, none⟩) (show w.heap.size + 1 < w2.heap.size by omega)).trans m1
  have n2 := (hb3.cell (p := ⟨w.heap.size + 1, 1, none⟩) (show w.heap.size + 1 < w2.heap.size by omega)).trans m2
  have n3 := (hb3.cell (p := ⟨w.heap.size + 1, 2, none⟩) (show w.heap.size + 1 < w2.heap.size by omega)).trans m3
  rw [HDK.out] at hpost
  obtain ⟨v, rfl, hv⟩ := hpost
  have HV := Lib.hid hv
  clear hb3 hv
  go_wp2_with fail
  refine (contains_any _ _ v _ HV.out _ (by rw [List.length_map]; have := HD.out.ok.fs.few; omega)).mono ?_
  rintro e w4 ⟨rfl, rfl⟩
  rw [names_contains, show (⟨#[77, 65, 78, 73, 70, 69, 83, 84]⟩ : ByteArray).data.toList = fileN from rfl, HNO.out]
  obtain ⟨ga, gc, rfl, _, hrow⟩ := row_names HV.out
  have HR := Lib.hid hrow
  clear hrow k0 m0
  have hnl : (st.fs.map (·.name)).length ≤ 64 := by rw [List.length_map]; exact HD.out.ok.fs.few
  have HNM := Lib.hid (fun t (ht : t ∈ st.fs.map (·.name)) => by obtain ⟨f, hf, e⟩ := List.mem_map.1 ht; exact (e ▸ HD.out.ok.fs.names f hf : t.length ≤ 24))
  generalize hns : st.fs.map (·.name) = ns at *
  have HNS := Lib.hid hns
  clear hns
  have HK4 := Lib.hid n0
  have HC4 := Lib.hid (And.intro n1 (And.intro n2 n3))
  clear n0 n1 n2 n3
  go_upto_block 2 with fail
  go_cut [11] (fun lv wx => ∃ (ss : Steps) (K : Nat → Prop), RowOk p b wx w4.heap.size lv ss K ∧ ss.length = ns.length ∧ ss.acts = ns.map goneF ∧ Below w4.heap.size w4 wx)
  case rest =>
    obtain ⟨ss, K, hrow, hsl, hac, hbx⟩ := hcut
    have hB := HB3.out.trans (hbx.mono HB3.out.size)
    have hr0 : r.data.toList = segHead q := by have h := HR0.out; unfold hdF at h; rw [hn'] at h; exact h
    have k0 := (hbx.cell (p := ⟨w.heap.size, 0, none⟩) (ltOfCell HK4.out)).trans HK4.out
    have c0 := (hbx.cell (p := ⟨w.heap.size + 1, 0, none⟩) (ltOfCell HC4.out.1)).trans HC4.out.1
    have c1 := (hbx.cell (p := ⟨w.heap.size + 1, 1, none⟩) (ltOfCell HC4.out.2.1)).trans HC4.out.2.1
    have c2 := (hbx.cell (p := ⟨w.heap.size + 1, 2, none⟩) (ltOfCell HC4.out.2.2)).trans HC4.out.2.2
    apply_assumption
    exact init_mid w wc p b st q hq c HC.out HDK.out HNO.out (below_pow hB HP.out) hB (HD.out.pure hB) r hr0 w.heap.size (w.heap.size + 1) w4.heap.size ⟨hpl, hbl⟩ (by omega) (by omega) hbx.size k0 c0 c1 c2 _ ss K hrow (by omega) (by rw [hac, ← HNS.out, List.map_map]; rfl)
  case first =>
   have n0 := HK4.out
   go_wp2_with fail
   go_loopw [11, 48] (fun lv i wr => ∃ (k : Nat) (ss : Steps) (K : Nat → Prop), i = .int .i64 (k : Int) ∧ k ≤ ns.length ∧ RowOk p b wr w4.heap.size lv ss K ∧ ss.length = k ∧ ss.acts = (ns.take k).map goneF ∧ Below w4.heap.size w4 wr) (fun _ i _ => ns.length - (intOf i).toNat)
   case atStart => exact ⟨0, [], fun _ => False, rfl, by omega, RowOk.nil _ _ _ _, rfl, rfl, Below.refl _ _⟩
   case round =>
    obtain ⟨k, ss, K, rfl, hk, hrow, hsl, hacts, hb⟩ := hrel
    have hsz := hb.size
    obtain ⟨a0, n0', c0, rfl⟩ := own_shape hrow.own
    have HRW := Lib.hid hrow
    have HAC := Lib.hid hacts
    have HBR := Lib.hid hb
    have q0 := (hb.cell (p := ⟨w.heap.size, 0, none⟩) (show w.heap.size < w4.heap.size by omega)).trans n0
    clear hrow hacts hb
    by_cases hlt : k < ns.length
    · obtain ⟨g5, rfl, hg5, hcell⟩ := HR.out k hlt
      have hcell := (HBR.out.cell (p := ⟨g5, k, none⟩) (ltOfCell hcell)).trans hcell
      have hnk := HNM.out _ (List.getElem_mem hlt)
      have HTK := Lib.hid (show ns.take (k + 1) = ns.take k ++ [ns[k]] from List.take_succ_eq_append_getElem hlt)
      obtain ⟨x, hx⟩ : ∃ x : ByteArray, x = ⟨ns[k].toArray⟩ := ⟨_, rfl⟩
      have hxl : x.data.toList = ns[k] := by rw [hx]
      rw [← hx] at hcell
      rw [← hxl] at HTK hnk
      clear hx hxl
      go_wp2_with fail
      refine (gone_any _ p x (by rw [size_toList] at hnk; unfold maxLen; omega) (by omega) b (by omega)).mono ?_
      rintro e w5 ⟨f, K5, rfl, hb5, hst, hk5⟩
      have HK5 := Lib.hid hk5
      have HB5 := Lib.hid hb5
      have HST := Lib.hid hst
      clear hb5 hst hk5
      have hs5 := HB5.out.size
      have HR5 := Lib.hid (HRW.out.pure HB5.out)
      have HO5 := Lib.hid (World.ownsRow.alloc (by have h := HR5.out.own; unfold OwnSteps at h; rw [hsl] at h; exact h : w5.ownsRow w4.heap.size 88 1 (.slice a0 n0' c0) k ss.cells) (.cells #[funcV f] 88))
      unfold funcV at HO5 ⊢
      obtain ⟨i0, hi, hz0, hz1, hz2⟩ := info_parts Tryz.infoStep
      have HI := Lib.hid hi
      have HZ0 := Lib.hid hz0
      have HZ1 := Lib.hid hz1
      have HZ2 := Lib.hid hz2
      clear hi hz0 hz1 hz2
      go_wp2_with (first
        | (refine wpList_append_lies _ rfl _ _ 86 rfl w4.heap.size 88 i0 _ 1 8 Tryz.underlying86 HI.out HZ0.out HZ1.out HZ2.out rfl (by omega) _ k _ rfl HO5.out ⟨w5.heap.size, 0, none⟩ 1 1 [.func (.func f.1) f.2.1 f.2.2] rfl rfl (cells_new rfl rfl) (by simp [Value.oneCell']) (by omega) (by unfold maxLen; omega) (by omega) (by simp; omega) (w5.heap.size + 1) (by simp) ?_; intro gg cap w8 hown8 hgrow8 hat8 hlt8))
      go_roundw
      case rel =>
        have hb8 : Below w4.heap.size w4 w8 := ((HBR.out.trans (HB5.out.mono hsz)).alloc (by omega) _).grown hgrow8 (by simp; omega) (fun j e => own_ge HRW.out.own (by exact e))
        have hb5a := (Below.refl w5.heap.size w5).alloc (Nat.le_refl _) (.cells #[.func (.func f.1) f.2.1 f.2.2] 88)
        have hR8 := (HR5.out.pure hb5a).more (l := [(f, goneF x.data.toList)]) (K2 := K5) (fun y hy => by rw [List.mem_singleton.1 hy]; exact HST.out.pure hb5a) (fun y hy => ⟨⟨by have := (HST.out.lt y hy).1; simp; omega, (HST.out.lt y hy).2⟩, fun e => by have h1 := own_below HRW.out.own e; have := HK5.out y hy; omega⟩) hgrow8 (n := k + 1) hown8 (by rw [hsl]; rfl) (hat8.imp id fun e => by simp; omega)
        exact ⟨k + 1, _, _, by go_num, by omega, hR8, by rw [List.length_append, hsl]; rfl, by rw [Steps.acts_append, HAC.out, HTK.out, List.map_append]; rfl, hb8⟩
      case measure => simp [intOf]; omega
    · have hkn : k = ns.length := by omega
      subst hkn
      have HTK := Lib.hid (show ns.take ns.length = ns from List.take_length)
      rw [HTK.out] at HAC
      go_wp2
      go_meet
      exact ⟨ss, K, HRW.out, hsl, HAC.out, HBR.out⟩
end Go.Proofs.YtcdjckdbcffgdaaGreatDoor

/- What a disk that is nobody's tells: find, Read, Delete, manif.Load; and New. -/
namespace Go.Proofs.YtcdjckdbcffgdaaGreatDoor
open Go.RowKit Go.Maps Go.Sort

set_option maxRecDepth 100000 in
set_option maxHeartbeats 1000000 in
theorem find_nil (w : World) (n : ByteArray) :
    Calls Tryz.prog 72 #[.pointer none, .string n] w fun e w' => e = .returned (.tuple #[.agg #[.string ⟨#[]⟩, .string ⟨#[]⟩], .int .i64 2]) ∧ Below w.heap.size w w' := by
  go_enter Tryz.func72, Tryz.ntmps72
  go_wp2_with fail
  refine (dk_down_nil _).mono ?_
  rintro e w1 ⟨rfl, rfl⟩
  go_wp2
  exact bodyPost_ret (v := .tuple #[.agg #[.string ⟨#[]⟩, .string ⟨#[]⟩], .int .i64 2]) (by simp [results, Tryz.results72, go_sem]) rfl ⟨rfl, (Below.refl _ _).alloc (Nat.le_refl _) _⟩

set_option maxRecDepth 100000 in
set_option maxHeartbeats 1000000 in
theorem delete_nil (w : World) (n : ByteArray) :
    Calls Tryz.prog 30 #[.pointer none, .string n] w fun e w' => e = .returned (.int .i64 2) ∧ Below w.heap.size w w' := by
  go_enter Tryz.func30, Tryz.ntmps30
  go_wp2_with fail
  refine (find_nil _ n).mono ?_
  rintro e w1 ⟨rfl, hb1⟩
  have B1 := Lib.hid (box2_fr w _ _ hb1)
  clear hb1
  go_wp2
  go_ret
  exact ⟨rfl, B1.out.alloc B1.out.size _⟩

set_option maxRecDepth 100000 in
set_option maxHeartbeats 1000000 in
theorem read_nil (w : World) (n : ByteArray) :
    Calls Tryz.prog 117 #[.pointer none, .string n] w fun e w' => e = .returned (.tuple #[.string ⟨#[]⟩, .int .i64 2]) ∧ Below w.heap.size w w' := by
  go_enter Tryz.func117, Tryz.ntmps117
  go_wp2_with fail
  refine (find_nil _ n).mono ?_
  rintro e w1 ⟨rfl, hb1⟩
  have B1 := Lib.hid hb1
  clear hb1
  go_wp2
  exact bodyPost_ret (v := .tuple #[.string ⟨#[]⟩, .int .i64 2]) (by simp [results, Tryz.results117, go_sem]; rfl) rfl ⟨rfl, B1.out.alloc B1.out.size _⟩

set_option maxRecDepth 100000 in
set_option maxHeartbeats 1000000 in
theorem load_nil (w : World) :
    Calls Tryz.prog 63 #[.pointer none] w fun e w' => e = .returned (.tuple #[noMan, .int .i64 2]) ∧ Below w.heap.size w w' := by
  go_enter Tryz.func63, Tryz.ntmps63
  go_wp2_with fail
  refine (read_nil _ ⟨#[77, 65, 78, 73, 70, 69, 83, 84]⟩).mono ?_
  rintro e w1 ⟨rfl, hb1⟩
  have B1 := Lib.hid ((((Below.refl w.heap.size w).alloc (Nat.le_refl _) _)).trans (hb1.mono (by simp)))
  have hbox : w1.heap[w.heap.size]? = some (.cells #[.int .i64 0, .slice none 0 0] 38 (0, 0)) := (hb1.block _ (by simp)).trans (alloc_at_top _ _ rfl)
  have c0 : w1.cell? ⟨w.heap.size, 0, none⟩ = some (.int .i64 0) := by rw [cell_of_row _ _ _ _ _ _ hbox]; rfl
  have c1 : w1.cell? ⟨w.heap.size, 1, none⟩ = some (.slice none 0 0) := by rw [cell_of_row _ _ _ _ _ _ hbox]; rfl
  have z : ∀ j : Nat, w1.frozen? ⟨w.heap.size, j, none⟩ = false := fun j => frozen_of_row _ _ _ _ _ hbox
  clear hb1 hbox
  go_wp2
  refine bodyPost_ret (v := .tuple #[noMan, .int .i64 2]) (by simp [results, Tryz.results63, go_sem, c0, c1]; rfl) rfl ⟨rfl, ?_⟩
  exact (B1.out.setCell (p := ⟨w.heap.size, 0, none⟩) (Nat.le_refl _) _).setCell (p := ⟨w.heap.size, 1, none⟩) (Nat.le_refl _) _

set_option maxRecDepth 100000 in
set_option maxHeartbeats 1000000 in
theorem dk_new (w : World) (cap : Int) (hc : cap ≤ 9223372036854775807) :
    Calls Tryz.prog 8 #[.int .i64 cap] w fun e w' => LoadPost cap [] w e w' := by
  go_enter Tryz.func8, Tryz.ntmps8
  go_wp2_with fail
  refine (dk_load w cap (.slice none 0 0) [] ⟨none, 0, rfl, .inl rfl⟩ (by simp) (by simp) hc).mono ?_
  rintro e w1 ⟨hb, h⟩
  have HB := Lib.hid hb
  rcases load_cases cap [] with ⟨c, hcf, hc0, hld⟩ | hld
  · rw [hld] at h
    simp only at h
    subst h
    have HL := Lib.hid hld
    clear hld hb
    go_wp2
    refine bodyPost_ret (v := .tuple #[.pointer none, .int .i64 c]) (by simp [results, Tryz.results8, go_sem]) rfl ⟨HB.out, ?_⟩
    rw [HL.out]
  · rw [hld] at h
    obtain ⟨p, b, hpg, hbg, rfl, hd⟩ := h
    have HL := Lib.hid (And.intro hld (And.intro hpg (And.intro hbg hd)))
    clear hld hb hd hpg hbg
    go_wp2
    refine bodyPost_ret (v := .tuple #[.pointer (some ⟨p, 0, none⟩), .int .i64 0]) (by simp [results, Tryz.results8, go_sem]) rfl ⟨HB.out, ?_⟩
    rw [HL.out.1]
    exact ⟨p, b, HL.out.2.1, HL.out.2.2.1, rfl, HL.out.2.2.2⟩
end Go.Proofs.YtcdjckdbcffgdaaGreatDoor
